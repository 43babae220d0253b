/- FifoDrains holds: for every capacity and every list of bytes the Go function returns true, without a panic, and leaves its arguments as they were. No condition beyond the statement's own. -/
import Derived.Test.YtiajgnpobcidmaaVa
import Derived.Test.YtiajgnpobcidmaaVb
import Derived.Test.YtiajgnpobcidmaaVc
import Derived.Test.YtiajgnpobcidmaaVd
import Derived.Test.YtiajgnpobcidmaaT
import Derived.Test.YtiajgnpobcidmaaF
set_option linter.unusedSimpArgs false
set_option linter.unusedVariables false

namespace Go.Proofs
open Go.V IntWalk
set_option maxRecDepth 100000
set_option linter.unusedSimpArgs false
set_option linter.unusedVariables false

theorem law43_FifoDrains_S (c : Int) (l : List Int) (hc : 0 ≤ c ∧ c < 256) (hl : ∀ b ∈ l, 0 ≤ b ∧ b < 256) :
    FSpec Try.prog 8 [.c (.d (.s (.int .u8 c))), .c (.d (dU l))] [] (tB true) [] := by
  refine fspec_intro Try.func8 (by kernel_rfl) rfl Try.vtOK rfl Try.ntmps8 (by simp) ?_
  refine awp_seq' fun k1 hk1 => awp_region (et := Try.et) Try.vtOK Try.etOK ?_
  simp (maxSteps := 5000000) (disch := first | (intro _; intros; contradiction) | omega) [i64_in, u8_in, vgd_t, vgd_f, wgd_t, wgd_f]
  (refine hk1 _ ?_; clear hk1)
  refine awp_seq' fun k2 hk2 => awp_region (et := Try.et) Try.vtOK Try.etOK ?_
  simp (maxSteps := 5000000) (disch := first | (intro _; intros; contradiction) | omega) [i64_in, u8_in, vgd_t, vgd_f, wgd_t, wgd_f]
  refine vcall_fn rfl (by simp) (LeTs.refl _) (law43_examples_S) ?_
  simp (maxSteps := 5000000) (disch := first | (intro _; intros; contradiction) | omega) [i64_in, u8_in, vgd_t, vgd_f, wgd_t, wgd_f]
  (refine hk2 _ ?_; clear hk2)
  refine awp_seq' fun k3 hk3 => ?_
  refine awp_seq' fun k4 hk4 => awp_region (et := Try.et) Try.vtOK Try.etOK ?_
  simp (maxSteps := 5000000) (disch := first | (intro _; intros; contradiction) | omega) [i64_in, u8_in, vgd_t, vgd_f, wgd_t, wgd_f]
  (refine hk4 _ ?_; clear hk4)
  refine awp_cond rfl rfl (fun hc => ?_) (fun hc => ?_)
  · simp at hc
  · refine awp_skip ?_
    (refine hk3 _ ?_; clear hk3)
    refine awp_seq' fun k6 hk6 => ?_
    refine awp_seq' fun k7 hk7 => awp_region (et := Try.et) Try.vtOK Try.etOK ?_
    simp (maxSteps := 5000000) (disch := first | (intro _; intros; contradiction) | omega) [i64_in, u8_in, vgd_t, vgd_f, wgd_t, wgd_f]
    (refine hk7 _ ?_; clear hk7)
    refine awp_cond rfl rfl (fun hc2 => ?_) (fun hc2 => ?_)
    · refine awp_seq' fun k8 hk8 => awp_region (et := Try.et) Try.vtOK Try.etOK ?_
      simp (maxSteps := 5000000) (disch := first | (intro _; intros; contradiction) | omega) [i64_in, u8_in, vgd_t, vgd_f, wgd_t, wgd_f]
      (refine hk8 _ ?_; clear hk8)
      refine awp_ret ⟨.inr rfl, ?_⟩
      simp
    · refine awp_skip ?_
      simp at hc2
      (refine hk6 _ ?_; clear hk6)
      refine awp_seq' fun k9 hk9 => awp_region (et := Try.et) Try.vtOK Try.etOK ?_
      simp (maxSteps := 5000000) (disch := first | (intro _; intros; contradiction) | omega) [i64_in, u8_in, vgd_t, vgd_f, wgd_t, wgd_f]
      refine vcall_fn rfl (by simp) (LeTs.refl _) (ref43_Worn_S c l ‹0 ≤ c ∧ c < 256› hl (by omega)) ?_
      simp (maxSteps := 5000000) (disch := first | (intro _; intros; contradiction) | omega) [i64_in, u8_in, vgd_t, vgd_f, wgd_t, wgd_f]
      (refine hk9 _ ?_; clear hk9)
      have hg : (Fi.worn c l).good := Fi.worn_good (by omega) l
      generalize Fi.worn c l = f at *
      have hcf := hg.cap
      have hlf := hg.len_eq
      refine awp_seq' fun k10 hk10 => awp_region (et := Try.et) Try.vtOK Try.etOK ?_
      simp (maxSteps := 5000000) (disch := first | (intro _; intros; contradiction) | omega) [i64_in, u8_in, vgd_t, vgd_f, wgd_t, wgd_f]
      refine vcall_fn rfl (by simp) (LeTs.refl _) (fifo_Words_S f hg.took) ?_
      simp (maxSteps := 5000000) (disch := first | (intro _; intros; contradiction) | omega) [i64_in, u8_in, vgd_t, vgd_f, wgd_t, wgd_f]
      (refine hk10 _ ?_; clear hk10)
      refine awp_seq' fun k11 hk11 => awp_region (et := Try.et) Try.vtOK Try.etOK ?_
      simp (maxSteps := 5000000) (disch := first | (intro _; intros; contradiction) | omega) [i64_in, u8_in, vgd_t, vgd_f, wgd_t, wgd_f]
      (refine hk11 _ ?_; clear hk11)
      refine awp_seq' fun k12 hk12 => ?_
      refine awp_seq' fun k13 hk13 => awp_region (et := Try.et) Try.vtOK Try.etOK ?_
      simp (maxSteps := 5000000) (disch := first | (intro _; intros; contradiction) | omega) [i64_in, u8_in, vgd_t, vgd_f, wgd_t, wgd_f]
      (refine hk13 _ ?_; clear hk13)
      refine awp_block (awp_for (fun n s => ∃ i : Nat, n = f.len + 2 - i ∧ i ≤ f.len + 2 ∧ s = ⟨[(9, tI .i64 i), (8, .c (.row 368 (f.drained i).length)), (7, .c (.d (dL f.words))), (6, .c (.ptr 96 0)), (5, tB true)], [(368, .row false 3 1 (f.drained i).length fun j => [.s (.int .i64 ((f.drained i)[j]?.getD 0))]), (96, .box false (f.drain i).c)]⟩) (f.len + 2) (weak_mk (by simp [Fi.drained]) (by simp [Fi.drained, Fi.drain]; exact LeD.ext fun j hj => by omega) (by simp)) ⟨0, rfl, by omega, rfl⟩ ?_)
      rintro n s ⟨i, rfl, hi, rfl⟩ k hk
      have gi := Fi.drain_good hg i
      have hdl : (f.drained i).length ≤ f.len := by
        have := congrArg List.length (Fi.drain_words hg i)
        simp at this
        omega
      refine awp_seq' fun k14 hk14 => ?_
      refine awp_seq' fun k15 hk15 => awp_region (et := Try.et) Try.vtOK Try.etOK ?_
      simp (maxSteps := 5000000) (disch := first | (intro _; intros; contradiction) | omega) [i64_in, u8_in, vgd_t, vgd_f, wgd_t, wgd_f]
      (refine hk15 _ ?_; clear hk15)
      refine awp_cond rfl rfl (fun hc3 => ?_) (fun hc3 => ?_)
      · refine awp_skip ?_
        (refine hk14 _ ?_; clear hk14)
        simp at hc3
        refine awp_seq' fun k16 hk16 => ?_
        refine awp_block ?_
        refine awp_seq' fun k17 hk17 => awp_region (et := Try.et) Try.vtOK Try.etOK ?_
        simp (maxSteps := 5000000) (disch := first | (intro _; intros; contradiction) | omega) [i64_in, u8_in, vgd_t, vgd_f, wgd_t, wgd_f]
        refine vcall_fn rfl (by simp) (LeTs.refl _) (law43_read_S (f.drain i) true gi.took) ?_
        simp (maxSteps := 5000000) (disch := first | (intro _; intros; contradiction) | omega) [i64_in, u8_in, vgd_t, vgd_f, wgd_t, wgd_f]
        (refine hk17 _ ?_; clear hk17)
        refine awp_seq' fun k18 hk18 => ?_
        refine awp_seq' fun k19 hk19 => awp_region (et := Try.et) Try.vtOK Try.etOK ?_
        simp (maxSteps := 5000000) (disch := first | (intro _; intros; contradiction) | omega) [i64_in, u8_in, vgd_t, vgd_f, wgd_t, wgd_f]
        refine vcall_fn rfl (by simp) (LeTs.refl _) (ref43_Valid_ok _ (Fi.read_good gi true)) ?_
        simp (maxSteps := 5000000) (disch := first | (intro _; intros; contradiction) | omega) [i64_in, u8_in, vgd_t, vgd_f, wgd_t, wgd_f]
        (refine hk19 _ ?_; clear hk19)
        refine awp_cond rfl rfl (fun hc4 => ?_) (fun hc4 => ?_)
        · simp at hc4
        · refine awp_skip ?_
          (refine hk18 _ ?_; clear hk18)
          refine awp_seq' fun k21 hk21 => ?_
          have h21 : ∀ s, Weak s ⟨[(9, tI .i64 i), (8, .c (.row 368 (f.drained (i + 1)).length)), (7, .c (.d (dL f.words))), (6, .c (.ptr 96 0)), (5, tB true), (10, .c (.ptr 160 0))], [(368, .row false 3 1 (f.drained (i + 1)).length fun j => [.s (.int .i64 ((f.drained (i + 1))[j]?.getD 0))]), (96, .box false (f.drain i).c), (160, .box false (Ti.c ⟨(f.drain i).read true, false, (f.drain i).has, if (f.drain i).has then (f.drain i).word 0 else 0⟩))]⟩ → k21 s := by
            intro s hw
            refine hk21 s (awp_weak hw ?_)
            refine awp_region (et := Try.et) Try.vtOK Try.etOK ?_
            simp (maxSteps := 5000000) (disch := first | (intro _; intros; contradiction) | omega) [i64_in, u8_in, vgd_t, vgd_f, wgd_t, wgd_f]
            (refine hk16 _ ?_; clear hk16)
            refine awp_region (et := Try.et) Try.vtOK Try.etOK ?_
            simp (maxSteps := 5000000) (disch := first | (intro _; intros; contradiction) | omega) [i64_in, u8_in, vgd_t, vgd_f, wgd_t, wgd_f]
            exact hk _ _ _ (by omega) ⟨i + 1, rfl, by omega, rfl⟩ (weak_mk (by simp) (by simp [Fi.drain]) (by simp))
          refine awp_seq' fun k22 hk22 => awp_region (et := Try.et) Try.vtOK Try.etOK ?_
          simp (maxSteps := 5000000) (disch := first | (intro _; intros; contradiction) | omega) [i64_in, u8_in, vgd_t, vgd_f, wgd_t, wgd_f]
          (refine hk22 _ ?_; clear hk22)
          refine awp_cond rfl rfl (fun hc5 => ?_) (fun hc5 => ?_)
          · refine awp_region (et := Try.et) Try.vtOK Try.etOK ?_
            simp (maxSteps := 5000000) (disch := first | (intro _; intros; contradiction) | omega) [i64_in, u8_in, vgd_t, vgd_f, wgd_t, wgd_f]
            refine ⟨by omega, ?_⟩
            have e : f.drained (i + 1) = f.drained i ++ [(f.drain i).word 0] := by simp [Fi.drained, Fi.taken, hc5]
            refine h21 _ (weak_mk (by simp [e, hc5]) (by simp [e, hc5]; exact appWF _ _) (by simp))
          · refine awp_skip ?_
            have e : f.drained (i + 1) = f.drained i := by simp [Fi.drained, Fi.taken, hc5]
            refine h21 _ (weak_mk (by simp [e]) (by simp [e, hc5]) (by simp))
      · refine awp_exit ?_
        simp at hc3 ⊢
        have hi2 : i = f.len + 2 := by omega
        subst hi2
        obtain ⟨z1, z2, z3⟩ := Fi.drain_end hg
        (refine hk12 _ ?_; clear hk12)
        refine awp_seq' fun k23 hk23 => awp_region (et := Try.et) Try.vtOK Try.etOK ?_
        simp (maxSteps := 5000000) (disch := first | (intro _; intros; contradiction) | omega) [i64_in, u8_in, vgd_t, vgd_f, wgd_t, wgd_f, z1, z2, z3]
        have hwl : f.words.length < 1000000 := by simp; omega
        refine vcall_fn rfl (by simp) (by simp; exact LeD_dL (by simp) fun j hj => rfl) (ref01_Ints_S f.words f.words hwl hwl) ?_
        simp (maxSteps := 5000000) (disch := first | (intro _; intros; contradiction) | omega) [i64_in, u8_in, vgd_t, vgd_f, wgd_t, wgd_f]
        refine vcall_fn rfl (by simp) (LeTs.refl _) (fifo_Words_S _ gi.took) ?_
        simp (maxSteps := 5000000) (disch := first | (intro _; intros; contradiction) | omega) [i64_in, u8_in, vgd_t, vgd_f, wgd_t, wgd_f, z1, z2, z3]
        refine vcall_fn rfl (by simp) (LeTs.refl _) (fifo_Has_H _) ?_
        simp (maxSteps := 5000000) (disch := first | (intro _; intros; contradiction) | omega) [i64_in, u8_in, vgd_t, vgd_f, wgd_t, wgd_f, z1, z2, z3]
        (refine hk23 _ ?_; clear hk23)
        refine awp_ret ⟨.inr rfl, ?_⟩
        simp
end Go.Proofs

namespace Go.Proofs.Ytiajgnpobcidmaa.lawFifoDrains
open Go.V
set_option maxRecDepth 100000
set_option linter.unusedVariables false
theorem spec (dss : List (List D)) (h : FitsLL [[.int .u8], [.slice [.int .u8]]] dss) : FSpec Try.prog 8 (tsOf Try.vt [5, 22] dss) [] (tB true) [] := by
  match dss, h with
  | [[c], [l]], h =>
    simp only [FitsLL, FitsL, and_true] at h
    obtain ⟨hc, hl⟩ := h
    cases hc with
    | @int _ c wc =>
      cases hl with
      | @slice _ n f hn hl h =>
        obtain ⟨l, rfl, hl1, hl2⟩ := fits_bytes (.slice hn hl h)
        simp [Lit.wf, IntKind.min, IntKind.max, IntKind.signed, IntKind.bits] at wc
        refine FSpec.le (law43_FifoDrains_S c l (by omega) hl1) ?_
        simp [tsOf, tOf]
        exact hl2

theorem own : ownKnob Try.prog.godebug = none := by kernel_rfl
theorem laidOut : laidOutB Try.prog = true := by kernel_rfl
theorem lifted (os : Os) (started : os.Started) (H : Type) (enc : TypeId × Value → H) :
    ReturnsInHanded {} Try.checked os 8 .any (Rows.fifoDrainsSpec.pre6 enc Try.prog Try.f8 Rows.fifoDrainsRow.domain false) (Rows.fifoDrainsSpec.post enc Try.prog Try.f8 false true false false) := by
  refine returnsInHanded_of_change (C := Try.checked) own started (by kernel_rfl) Try.func8
    (ChangeSpec.witness6 (enc := enc) (C := Try.checked) false ⟨#[], #[.int .u8 0, .slice none 0 0], []⟩ 8 (by kernel_rfl) (by kernel_rfl) (by kernel_rfl) (by kernel_rfl)) ?_
  intro W base args ds gs before hval hW _ _
  refine law_contract (m := 9) Try.vtOK laidOut (ts := [5, 22]) (by kernel_rfl) ?_ (tb := 4) (by kernel_rfl) Try.underlying4 rfl ?_ (shss := _) rfl spec W base args ds gs before hval hW
  · exact List.forall_mem_cons.2 ⟨⟨by kernel_rfl, of_decide_eq_true (by kernel_rfl)⟩, List.forall_mem_cons.2 ⟨⟨by kernel_rfl, of_decide_eq_true (by kernel_rfl)⟩, fun t ht => by cases ht⟩⟩
  · intro ds h
    match ds, h with
    | [a, b], _ => rfl

theorem over : Rows.fifoDrainsRow.holds Try.pinned (OpenSpec.ofChange Rows.fifoDrainsSpec) :=
  OpenClaim.holds_of_wide 8 Try.f8 rfl rfl rfl rfl rfl rfl rfl ⟨rfl, rfl, rfl, rfl, rfl⟩ rfl rfl rfl rfl rfl (by kernel_rfl) Try.func8 (by kernel_rfl)
    (of_decide_eq_true (by kernel_rfl)) (by unfold Func.isWrapper; first | (rw [if_pos (by decide +kernel)]; kernel_rfl) | (rw [if_neg (by decide +kernel)]; exact ⟨rfl, rfl⟩))
    (fun os started H enc _ => lifted os started H enc)

theorem proved : Rows.FifoDrainsSaid := over
end Go.Proofs.Ytiajgnpobcidmaa.lawFifoDrains
