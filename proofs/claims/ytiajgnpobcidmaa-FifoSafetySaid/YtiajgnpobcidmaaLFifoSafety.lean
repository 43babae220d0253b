/- FifoSafety holds: for every capacity, every list of bytes and every word the Go function returns true, without a panic, and leaves its arguments as they were. No condition beyond the statement's own. -/
import Derived.Test.YtiajgnpobcidmaaVa
import Derived.Test.YtiajgnpobcidmaaVb
import Derived.Test.YtiajgnpobcidmaaVc
import Derived.Test.YtiajgnpobcidmaaVd
import Derived.Test.YtiajgnpobcidmaaT
import Derived.Test.YtiajgnpobcidmaaF
set_option linter.unusedSimpArgs false
set_option linter.unusedVariables false

namespace Go.Proofs
open Go.V IntWalk
set_option maxRecDepth 100000
set_option linter.unusedSimpArgs false
set_option linter.unusedVariables false

theorem appL (xs ys : List Int) : LeD (.l (xs.length + ys.length) (appF xs.length (fun j => [.s (.int .i64 (xs[j]?.getD 0))]) (fun j => [.s (.int .i64 (ys[j]?.getD 0))]))) (dL (xs ++ ys)) :=
  LeD_dL (by simp) fun j hj => by
    unfold appF
    split
    · rename_i h; rw [List.getElem?_append_left h]
    · rename_i h; rw [List.getElem?_append_right (by omega)]

theorem appW (xs : List Int) (w : Int) (n : Nat) (hn : n = xs.length) : LeD (.l (n + 1) (appF n (fun j => [.s (.int .i64 (xs[j]?.getD 0))]) (fun j => [[D.s (.int .i64 w)]][j]?.getD []))) (dL (xs ++ [w])) :=
  LeD_dL (by simp [hn]) fun j hj => by
    subst hn
    unfold appF
    split
    · rename_i h; rw [List.getElem?_append_left h]
    · have : j = xs.length := by omega
      subst this
      simp

theorem law43_FifoSafety_S (c : Int) (l : List Int) (w : Int) (hc : 0 ≤ c ∧ c < 256) (hl : ∀ b ∈ l, 0 ≤ b ∧ b < 256) :
    FSpec Try.prog 5 [.c (.d (.s (.int .u8 c))), .c (.d (dU l)), tI .i64 w] [] (tB true) [] := by
  refine fspec_intro Try.func5 (by kernel_rfl) rfl Try.vtOK rfl Try.ntmps5 (by simp) ?_
  refine awp_seq' fun k1 hk1 => awp_region (et := Try.et) Try.vtOK Try.etOK ?_
  simp (maxSteps := 5000000) (disch := first | (intro _; intros; contradiction) | omega) [i64_in, u8_in, vgd_t, vgd_f, wgd_t, wgd_f]
  (refine hk1 _ ?_; clear hk1)
  refine awp_seq' fun k2 hk2 => awp_region (et := Try.et) Try.vtOK Try.etOK ?_
  simp (maxSteps := 5000000) (disch := first | (intro _; intros; contradiction) | omega) [i64_in, u8_in, vgd_t, vgd_f, wgd_t, wgd_f]
  refine vcall_fn rfl (by simp) (LeTs.refl _) (law43_examples_S) ?_
  simp (maxSteps := 5000000) (disch := first | (intro _; intros; contradiction) | omega) [i64_in, u8_in, vgd_t, vgd_f, wgd_t, wgd_f]
  (refine hk2 _ ?_; clear hk2)
  refine awp_seq' fun k3 hk3 => ?_
  refine awp_seq' fun k4 hk4 => awp_region (et := Try.et) Try.vtOK Try.etOK ?_
  simp (maxSteps := 5000000) (disch := first | (intro _; intros; contradiction) | omega) [i64_in, u8_in, vgd_t, vgd_f, wgd_t, wgd_f]
  (refine hk4 _ ?_; clear hk4)
  refine awp_cond rfl rfl (fun hc => ?_) (fun hc => ?_)
  · simp at hc
  · refine awp_skip ?_
    (refine hk3 _ ?_; clear hk3)
    refine awp_seq' fun k6 hk6 => ?_
    refine awp_seq' fun k7 hk7 => awp_region (et := Try.et) Try.vtOK Try.etOK ?_
    simp (maxSteps := 5000000) (disch := first | (intro _; intros; contradiction) | omega) [i64_in, u8_in, vgd_t, vgd_f, wgd_t, wgd_f]
    (refine hk7 _ ?_; clear hk7)
    refine awp_cond rfl rfl (fun hc2 => ?_) (fun hc2 => ?_)
    · refine awp_seq' fun k8 hk8 => awp_region (et := Try.et) Try.vtOK Try.etOK ?_
      simp (maxSteps := 5000000) (disch := first | (intro _; intros; contradiction) | omega) [i64_in, u8_in, vgd_t, vgd_f, wgd_t, wgd_f]
      (refine hk8 _ ?_; clear hk8)
      refine awp_ret ⟨.inr rfl, ?_⟩
      simp
    · refine awp_skip ?_
      simp at hc2
      (refine hk6 _ ?_; clear hk6)
      refine awp_seq' fun k9 hk9 => awp_region (et := Try.et) Try.vtOK Try.etOK ?_
      simp (maxSteps := 5000000) (disch := first | (intro _; intros; contradiction) | omega) [i64_in, u8_in, vgd_t, vgd_f, wgd_t, wgd_f]
      refine vcall_fn rfl (by simp) (LeTs.refl _) (ref43_Worn_S c l ‹0 ≤ c ∧ c < 256› hl (by omega)) ?_
      simp (maxSteps := 5000000) (disch := first | (intro _; intros; contradiction) | omega) [i64_in, u8_in, vgd_t, vgd_f, wgd_t, wgd_f]
      (refine hk9 _ ?_; clear hk9)
      have hg : (Fi.worn c l).good := Fi.worn_good (by omega) l
      generalize Fi.worn c l = f at *
      have ga := Fi.write_good hg true w
      have gb := Fi.read_good hg true
      have hlf := hg.len_eq
      have hla := ga.len_eq
      have hlb := gb.len_eq
      have hca : (f.write true w).cap = f.cap := by unfold Fi.write; split <;> rfl
      have hcb : (f.read true).cap = f.cap := by unfold Fi.read; split <;> rfl
      have hcf := hg.cap
      have hwa := Fi.words_write hg true w
      have hwb := Fi.words_read hg true
      have hrl := hg.room_lt
      have hhp := hg.has_pos
      have e1 : ¬ f.cap < (f.len : Int) := by omega
      have e2 : ¬ f.cap < ((f.write true w).len : Int) := by omega
      refine awp_seq' fun k10 hk10 => awp_region (et := Try.et) Try.vtOK Try.etOK ?_
      simp (maxSteps := 5000000) (disch := first | (intro _; intros; contradiction) | omega) [i64_in, u8_in, vgd_t, vgd_f, wgd_t, wgd_f]
      refine vcall_fn rfl (by simp) (LeTs.refl _) (fifo_Words_S f hg.took) ?_
      simp (maxSteps := 5000000) (disch := first | (intro _; intros; contradiction) | omega) [i64_in, u8_in, vgd_t, vgd_f, wgd_t, wgd_f]
      (refine hk10 _ ?_; clear hk10)
      refine awp_seq' fun k11 hk11 => awp_region_draw (et := Try.et) Try.mixed Try.vtOK Try.etOK ?_
      simp (maxSteps := 5000000) (disch := first | (intro _; intros; contradiction) | omega) [i64_in, u8_in, vgd_t, vgd_f, wgd_t, wgd_f]
      refine wcall_fn rfl (by simp) (LeTs.refl _) (law43_write_S f true w hg.took) ?_
      simp (maxSteps := 5000000) (disch := first | (intro _; intros; contradiction) | omega) [i64_in, u8_in, vgd_t, vgd_f, wgd_t, wgd_f]
      refine wcall_fn rfl (by simp) (LeTs.refl _) (law43_read_S f true hg.took) ?_
      simp (maxSteps := 5000000) (disch := first | (intro _; intros; contradiction) | omega) [i64_in, u8_in, vgd_t, vgd_f, wgd_t, wgd_f]
      (refine ⟨by kernel_rfl, hk11 _ ?_⟩; clear hk11)
      refine awp_seq' fun k12 hk12 => ?_
      refine awp_seq' fun k13 hk13 => awp_region_draw (et := Try.et) Try.mixed Try.vtOK Try.etOK ?_
      simp (maxSteps := 5000000) (disch := first | (intro _; intros; contradiction) | omega) [i64_in, u8_in, vgd_t, vgd_f, wgd_t, wgd_f]
      refine wcall_fn rfl (by simp) (LeTs.refl _) (fifo_Valid_ok f hg) ?_
      simp (maxSteps := 5000000) (disch := first | (intro _; intros; contradiction) | omega) [i64_in, u8_in, vgd_t, vgd_f, wgd_t, wgd_f]
      refine wcall_fn rfl (by simp) (LeTs.refl _) (ref43_Valid_ok _ ga) ?_
      simp (maxSteps := 5000000) (disch := first | (intro _; intros; contradiction) | omega) [i64_in, u8_in, vgd_t, vgd_f, wgd_t, wgd_f]
      refine wcall_fn rfl (by simp) (LeTs.refl _) (ref43_Valid_ok _ gb) ?_
      simp (maxSteps := 5000000) (disch := first | (intro _; intros; contradiction) | omega) [i64_in, u8_in, vgd_t, vgd_f, wgd_t, wgd_f, e1]
      refine wcall_fn rfl (by simp) (LeTs.refl _) (fifo_Words_S _ ga.took) ?_
      simp (maxSteps := 5000000) (disch := first | (intro _; intros; contradiction) | omega) [i64_in, u8_in, vgd_t, vgd_f, wgd_t, wgd_f, e1, e2]
      (refine ⟨by kernel_rfl, hk13 _ ?_⟩; clear hk13)
      refine awp_cond rfl rfl (fun hc3 => ?_) (fun hc3 => ?_)
      · simp at hc3
      · refine awp_skip ?_
        (refine hk12 _ ?_; clear hk12)
        refine awp_seq' fun k15 hk15 => ?_
        refine awp_seq' fun k16 hk16 => awp_region_draw (et := Try.et) Try.mixed Try.vtOK Try.etOK ?_
        simp (maxSteps := 5000000) (disch := first | (intro _; intros; contradiction) | omega) [i64_in, u8_in, vgd_t, vgd_f, wgd_t, wgd_f]
        refine wcall_fn rfl (by simp) (LeTs.refl _) (fifo_Room_H f hg) ?_
        simp (maxSteps := 5000000) (disch := first | (intro _; intros; contradiction) | omega) [i64_in, u8_in, vgd_t, vgd_f, wgd_t, wgd_f]
        refine wcall_fn rfl (by simp) (LeTs.refl _) (fifo_Has_H f) ?_
        simp (maxSteps := 5000000) (disch := first | (intro _; intros; contradiction) | omega) [i64_in, u8_in, vgd_t, vgd_f, wgd_t, wgd_f]
        have hwl : f.words.length < 1000000 := by simp; omega
        have h15 : ∀ s, Weak s ⟨[(2, tI .i64 w), (9, .c (.d (dL f.words))), (7, tB true), (10, .c (.ptr 160 0)), (11, .c (.ptr 176 0))], [(160, .box false (Ti.c ⟨f.write true w, f.room, false, 0⟩)), (176, .box false (Ti.c ⟨f.read true, false, f.has, if f.has then f.word 0 else 0⟩))]⟩ → k15 s := by
          intro s hw
          refine hk15 s (awp_weak hw ?_)
          refine awp_seq' fun k18 hk18 => ?_
          have h18 : ∀ s, Weak s ⟨[(9, .c (.d (dL f.words))), (7, tB true), (11, .c (.ptr 176 0))], [(176, .box false (Ti.c ⟨f.read true, false, f.has, if f.has then f.word 0 else 0⟩))]⟩ → k18 s := by
            intro s hw
            refine hk18 s (awp_weak hw ?_)
            refine awp_seq' fun k21 hk21 => ?_
            refine awp_seq' fun k22 hk22 => awp_region (et := Try.et) Try.vtOK Try.etOK ?_
            simp (maxSteps := 5000000) (disch := first | (intro _; intros; contradiction) | omega) [i64_in, u8_in, vgd_t, vgd_f, wgd_t, wgd_f]
            (refine hk22 _ ?_; clear hk22)
            have hwr : (f.read true).words.length < 1000000 := by simp; omega
            cases hh : f.has
            · refine awp_cond rfl rfl (fun hc4 => ?_) (fun hc4 => ?_)
              · refine awp_seq' fun k23 hk23 => awp_region (et := Try.et) Try.vtOK Try.etOK ?_
                simp (maxSteps := 5000000) (disch := first | (intro _; intros; contradiction) | omega) [i64_in, u8_in, vgd_t, vgd_f, wgd_t, wgd_f]
                refine vcall_fn rfl (by simp) (LeTs.refl _) (fifo_Words_S _ gb.took) ?_
                simp (maxSteps := 5000000) (disch := first | (intro _; intros; contradiction) | omega) [i64_in, u8_in, vgd_t, vgd_f, wgd_t, wgd_f]
                refine vcall_fn rfl (by simp) (LeTs.refl _) (ref01_Ints_S _ _ hwr hwl) ?_
                have e : (f.read true).words = f.words := by rw [hwb]; simp [Fi.taken, hh]
                simp (maxSteps := 5000000) (disch := first | (intro _; intros; contradiction) | omega) [i64_in, u8_in, vgd_t, vgd_f, wgd_t, wgd_f, e]
                (refine hk23 _ ?_; clear hk23)
                refine awp_ret ⟨.inr rfl, ?_⟩
                simp
              · simp at hc4
            · refine awp_cond rfl rfl (fun hc4 => ?_) (fun hc4 => ?_)
              · simp at hc4
              · refine awp_skip ?_
                (refine hk21 _ ?_; clear hk21)
                have hp := hhp hh
                have e0 : f.words[0]?.getD 0 = f.word 0 := Fi.words_get _ _ hp
                refine awp_seq' fun k24 hk24 => awp_region_draw (et := Try.et) Try.mixed Try.vtOK Try.etOK ?_
                simp (maxSteps := 5000000) (disch := first | (intro _; intros; contradiction) | omega) [i64_in, u8_in, vgd_t, vgd_f, wgd_t, wgd_f, e0]
                refine ⟨by omega, ?_⟩
                refine wcall_fn rfl (by simp) (LeTs.refl _) (fifo_Words_S _ gb.took) ?_
                simp (maxSteps := 5000000) (disch := first | (intro _; intros; contradiction) | omega) [i64_in, u8_in, vgd_t, vgd_f, wgd_t, wgd_f]
                refine ⟨by omega, ?_⟩
                refine wcall_fn rfl (by simp) (by simp; exact LeD_dL (by simp) fun j hj => by simp [Nat.add_comm]) (ref01_Ints_S _ (f.words.drop 1) hwr (by simp; omega)) ?_
                have e : (f.read true).words = f.words.drop 1 := by rw [hwb]; simp [Fi.taken, hh]
                simp (maxSteps := 5000000) (disch := first | (intro _; intros; contradiction) | omega) [i64_in, u8_in, vgd_t, vgd_f, wgd_t, wgd_f, e]
                (refine ⟨by kernel_rfl, hk24 _ ?_⟩; clear hk24)
                refine awp_ret ⟨.inr rfl, ?_⟩
                simp
          refine awp_seq' fun k19 hk19 => awp_region (et := Try.et) Try.vtOK Try.etOK ?_
          simp (maxSteps := 5000000) (disch := first | (intro _; intros; contradiction) | omega) [i64_in, u8_in, vgd_t, vgd_f, wgd_t, wgd_f]
          have hwa' : (f.write true w).words.length < 1000000 := by simp; omega
          cases hr : f.room
          · simp (maxSteps := 5000000) (disch := first | (intro _; intros; contradiction) | omega) [i64_in, u8_in, vgd_t, vgd_f, wgd_t, wgd_f]
            refine vcall_fn rfl (by simp) (LeTs.refl _) (fifo_Words_S _ ga.took) ?_
            simp (maxSteps := 5000000) (disch := first | (intro _; intros; contradiction) | omega) [i64_in, u8_in, vgd_t, vgd_f, wgd_t, wgd_f]
            refine vcall_fn rfl (by simp) (LeTs.refl _) (ref01_Ints_S _ _ hwa' hwl) ?_
            have e : (f.write true w).words = f.words := by rw [hwa]; simp [hr]
            simp (maxSteps := 5000000) (disch := first | (intro _; intros; contradiction) | omega) [i64_in, u8_in, vgd_t, vgd_f, wgd_t, wgd_f, e]
            (refine hk19 _ ?_; clear hk19)
            refine awp_cond rfl rfl (fun hc5 => ?_) (fun hc5 => ?_)
            · simp at hc5
            · refine awp_skip ?_
              exact h18 _ (weak_mk (by simp) (by simp) (by simp))
          · simp (maxSteps := 5000000) (disch := first | (intro _; intros; contradiction) | omega) [i64_in, u8_in, vgd_t, vgd_f, wgd_t, wgd_f]
            refine vcall_fn rfl (by simp) (LeTs.refl _) (fifo_Words_S _ ga.took) ?_
            simp (maxSteps := 5000000) (disch := first | (intro _; intros; contradiction) | omega) [i64_in, u8_in, vgd_t, vgd_f, wgd_t, wgd_f]
            refine ⟨by omega, by omega, ?_⟩
            refine vcall_fn rfl (by simp) (by simp; exact appW f.words w _ (by simp)) (ref01_Ints_S _ (f.words ++ [w]) hwa' (by simp; omega)) ?_
            have e : (f.write true w).words = f.words ++ [w] := by rw [hwa]; simp [hr]
            simp (maxSteps := 5000000) (disch := first | (intro _; intros; contradiction) | omega) [i64_in, u8_in, vgd_t, vgd_f, wgd_t, wgd_f, e]
            (refine hk19 _ ?_; clear hk19)
            refine awp_cond rfl rfl (fun hc5 => ?_) (fun hc5 => ?_)
            · simp at hc5
            · refine awp_skip ?_
              exact h18 _ (weak_mk (by simp) (by simp) (by simp))
        have r1 : f.room = true → ¬ (f.len : Int) = f.cap := fun h => by have := hrl h; omega
        have r2 : f.has = true → ¬ f.len = 0 := fun h => by have := hhp h; omega
        have h16 : ∀ s, Weak s ⟨[(93, tB false), (2, tI .i64 w), (9, .c (.d (dL f.words))), (7, tB true), (10, .c (.ptr 160 0)), (11, .c (.ptr 176 0))], [(160, .box false (Ti.c ⟨f.write true w, f.room, false, 0⟩)), (176, .box false (Ti.c ⟨f.read true, false, f.has, if f.has then f.word 0 else 0⟩))]⟩ → k16 s := by
          intro s hw
          refine hk16 s (awp_weak hw ?_)
          refine awp_cond rfl rfl (fun hc4 => ?_) (fun hc4 => ?_)
          · simp at hc4
          · refine awp_skip ?_
            exact h15 _ (weak_mk (by simp) (by simp) (by simp))
        cases hr : f.room <;> cases hh : f.has
        · simp (maxSteps := 5000000) (disch := first | (intro _; intros; contradiction) | omega) [i64_in, u8_in, vgd_t, vgd_f, wgd_t, wgd_f, hr, hh]
          exact ⟨by kernel_rfl, h16 _ (weak_mk (by simp) (by simp [hr, hh]) (by simp))⟩
        · simp (maxSteps := 5000000) (disch := first | (intro _; intros; contradiction) | omega) [i64_in, u8_in, vgd_t, vgd_f, wgd_t, wgd_f, hr, hh, r2 hh]
          exact ⟨by kernel_rfl, h16 _ (weak_mk (by simp [r2 hh]) (by simp [hr, hh]) (by simp))⟩
        · simp (maxSteps := 5000000) (disch := first | (intro _; intros; contradiction) | omega) [i64_in, u8_in, vgd_t, vgd_f, wgd_t, wgd_f, hr, hh, r1 hr]
          exact ⟨by kernel_rfl, h16 _ (weak_mk (by simp) (by simp [hr, hh]) (by simp))⟩
        · simp (maxSteps := 5000000) (disch := first | (intro _; intros; contradiction) | omega) [i64_in, u8_in, vgd_t, vgd_f, wgd_t, wgd_f, hr, hh, r1 hr, r2 hh]
          exact ⟨by kernel_rfl, h16 _ (weak_mk (by simp [r2 hh]) (by simp [hr, hh]) (by simp))⟩
end Go.Proofs

namespace Go.Proofs.Ytiajgnpobcidmaa.lawFifoSafety
open Go.V
set_option maxRecDepth 100000
set_option linter.unusedVariables false
theorem spec (dss : List (List D)) (h : FitsLL [[.int .u8], [.slice [.int .u8]], [.int .i64]] dss) : FSpec Try.prog 5 (tsOf Try.vt [5, 22, 3] dss) [] (tB true) [] := by
  match dss, h with
  | [[c], [l], [x]], h =>
    simp only [FitsLL, FitsL, and_true] at h
    obtain ⟨hc, hl, hx⟩ := h
    cases hc with
    | @int _ c wc => cases hx with
      | @int _ x wx =>
        cases hl with
        | @slice _ n f hn hl h =>
          obtain ⟨l, rfl, hl1, hl2⟩ := fits_bytes (.slice hn hl h)
          simp [Lit.wf, IntKind.min, IntKind.max, IntKind.signed, IntKind.bits] at wc wx
          refine FSpec.le (law43_FifoSafety_S c l x (by omega) hl1) ?_
          simp [tsOf, tOf]
          exact hl2

theorem own : ownKnob Try.prog.godebug = none := by kernel_rfl
theorem laidOut : laidOutB Try.prog = true := by kernel_rfl
theorem lifted (os : Os) (started : os.Started) (H : Type) (enc : TypeId × Value → H) :
    ReturnsInHanded {} Try.checked os 5 .any (Rows.fifoSafetySpec.pre6 enc Try.prog Try.f5 Rows.fifoSafetyRow.domain false) (Rows.fifoSafetySpec.post enc Try.prog Try.f5 false true false false) := by
  refine returnsInHanded_of_change (C := Try.checked) own started (by kernel_rfl) Try.func5
    (ChangeSpec.witness6 (enc := enc) (C := Try.checked) false ⟨#[], #[.int .u8 0, .slice none 0 0, .int .i64 0], []⟩ 8 (by kernel_rfl) (by kernel_rfl) (by kernel_rfl) (by kernel_rfl)) ?_
  intro W base args ds gs before hval hW _ _
  refine law_contract (m := 9) Try.vtOK laidOut (ts := [5, 22, 3]) (by kernel_rfl) ?_ (tb := 4) (by kernel_rfl) Try.underlying4 rfl ?_ (shss := _) rfl spec W base args ds gs before hval hW
  · exact List.forall_mem_cons.2 ⟨⟨by kernel_rfl, of_decide_eq_true (by kernel_rfl)⟩, List.forall_mem_cons.2 ⟨⟨by kernel_rfl, of_decide_eq_true (by kernel_rfl)⟩, List.forall_mem_cons.2 ⟨⟨by kernel_rfl, of_decide_eq_true (by kernel_rfl)⟩, fun t ht => by cases ht⟩⟩⟩
  · intro ds h
    match ds, h with
    | [a, b, c], _ => rfl

theorem over : Rows.fifoSafetyRow.holds Try.pinned (OpenSpec.ofChange Rows.fifoSafetySpec) :=
  OpenClaim.holds_of_wide 5 Try.f5 rfl rfl rfl rfl rfl rfl rfl ⟨rfl, rfl, rfl, rfl, rfl⟩ rfl rfl rfl rfl rfl (by kernel_rfl) Try.func5 (by kernel_rfl)
    (of_decide_eq_true (by kernel_rfl)) (by unfold Func.isWrapper; first | (rw [if_pos (by decide +kernel)]; kernel_rfl) | (rw [if_neg (by decide +kernel)]; exact ⟨rfl, rfl⟩))
    (fun os started H enc _ => lifted os started H enc)

theorem proved : Rows.FifoSafetySaid := over
end Go.Proofs.Ytiajgnpobcidmaa.lawFifoSafety
