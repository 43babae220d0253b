/- FifoOrder holds: for every capacity, every list of bytes and every list of ticks the Go function returns true, without a panic, and leaves its arguments as they were. No condition beyond the statement's own. -/
import Derived.Test.YtiajgnpobcidmaaVa
import Derived.Test.YtiajgnpobcidmaaVb
import Derived.Test.YtiajgnpobcidmaaVc
import Derived.Test.YtiajgnpobcidmaaVd
import Derived.Test.YtiajgnpobcidmaaT
import Derived.Test.YtiajgnpobcidmaaF
set_option linter.unusedSimpArgs false
set_option linter.unusedVariables false

namespace Go.Proofs
open Go.V IntWalk
set_option maxRecDepth 100000
set_option linter.unusedSimpArgs false
set_option linter.unusedVariables false

/-- A row of numbers of one's own. -/
abbrev rI (xs : List Int) : V.Obj := .row false 3 1 xs.length fun j => [.s (.int .i64 (xs[j]?.getD 0))]

theorem appLn (xs ys : List Int) (m : Nat) (hm : m = ys.length) : LeD (.l (xs.length + m) (appF xs.length (fun j => [.s (.int .i64 (xs[j]?.getD 0))]) (fun j => [.s (.int .i64 (ys[j]?.getD 0))]))) (dL (xs ++ ys)) := by
  subst hm
  exact appL xs ys

theorem law43_FifoOrder_S (c : Int) (l ts : List Int) (hc : 0 ≤ c ∧ c < 256) (hl : ∀ b ∈ l, 0 ≤ b ∧ b < 256) (htl : ts.length < 9223372036854775808) :
    FSpec Try.prog 4 [.c (.d (.s (.int .u8 c))), .c (.d (dU l)), .c (.d (dL ts))] [] (tB true) [] := by
  refine fspec_intro Try.func4 (by kernel_rfl) rfl Try.vtOK rfl Try.ntmps4 (by simp) ?_
  refine awp_seq' fun k1 hk1 => awp_region (et := Try.et) Try.vtOK Try.etOK ?_
  simp (maxSteps := 5000000) (disch := first | (intro _; intros; contradiction) | omega) [i64_in, u8_in, vgd_t, vgd_f, wgd_t, wgd_f]
  (refine hk1 _ ?_; clear hk1)
  refine awp_seq' fun k2 hk2 => awp_region (et := Try.et) Try.vtOK Try.etOK ?_
  simp (maxSteps := 5000000) (disch := first | (intro _; intros; contradiction) | omega) [i64_in, u8_in, vgd_t, vgd_f, wgd_t, wgd_f]
  refine vcall_fn rfl (by simp) (LeTs.refl _) (law43_examples_S) ?_
  simp (maxSteps := 5000000) (disch := first | (intro _; intros; contradiction) | omega) [i64_in, u8_in, vgd_t, vgd_f, wgd_t, wgd_f]
  (refine hk2 _ ?_; clear hk2)
  refine awp_seq' fun k3 hk3 => ?_
  refine awp_seq' fun k4 hk4 => awp_region (et := Try.et) Try.vtOK Try.etOK ?_
  simp (maxSteps := 5000000) (disch := first | (intro _; intros; contradiction) | omega) [i64_in, u8_in, vgd_t, vgd_f, wgd_t, wgd_f]
  (refine hk4 _ ?_; clear hk4)
  refine awp_cond rfl rfl (fun hc => ?_) (fun hc => ?_)
  · simp at hc
  · refine awp_skip ?_
    (refine hk3 _ ?_; clear hk3)
    refine awp_seq' fun k6 hk6 => ?_
    refine awp_seq' fun k7 hk7 => awp_region (et := Try.et) Try.vtOK Try.etOK ?_
    have h7 : ∀ s b, (b = false → l.length ≤ 60 ∧ ts.length ≤ 100) → Weak s ⟨[(23, tB b), (0, .c (.d (.s (.int .u8 c)))), (1, .c (.d (dU l))), (2, .c (.d (dL ts))), (7, tB true)], []⟩ → k7 s := by
      intro s b hb hw
      refine hk7 s (awp_weak hw ?_)
      refine awp_cond rfl rfl (fun hc2 => ?_) (fun hc2 => ?_)
      · refine awp_seq' fun k8 hk8 => awp_region (et := Try.et) Try.vtOK Try.etOK ?_
        simp (maxSteps := 5000000) (disch := first | (intro _; intros; contradiction) | omega) [i64_in, u8_in, vgd_t, vgd_f, wgd_t, wgd_f]
        (refine hk8 _ ?_; clear hk8)
        refine awp_ret ⟨.inr rfl, ?_⟩
        simp
      · refine awp_skip ?_
        obtain ⟨hc2, hc3⟩ := hb hc2
        (refine hk6 _ ?_; clear hk6)
        refine awp_seq' fun k9 hk9 => awp_region (et := Try.et) Try.vtOK Try.etOK ?_
        simp (maxSteps := 5000000) (disch := first | (intro _; intros; contradiction) | omega) [i64_in, u8_in, vgd_t, vgd_f, wgd_t, wgd_f]
        refine vcall_fn rfl (by simp) (LeTs.refl _) (ref43_Worn_S c l ‹0 ≤ c ∧ c < 256› hl (by omega)) ?_
        simp (maxSteps := 5000000) (disch := first | (intro _; intros; contradiction) | omega) [i64_in, u8_in, vgd_t, vgd_f, wgd_t, wgd_f]
        (refine hk9 _ ?_; clear hk9)
        have hg : (Fi.worn c l).good := Fi.worn_good (by omega) l
        generalize Fi.worn c l = f at *
        have hcf := hg.cap
        have hlf := hg.len_eq
        refine awp_seq' fun k10 hk10 => awp_region (et := Try.et) Try.vtOK Try.etOK ?_
        simp (maxSteps := 5000000) (disch := first | (intro _; intros; contradiction) | omega) [i64_in, u8_in, vgd_t, vgd_f, wgd_t, wgd_f]
        refine vcall_fn rfl (by simp) (LeTs.refl _) (fifo_Words_S f hg.took) ?_
        simp (maxSteps := 5000000) (disch := first | (intro _; intros; contradiction) | omega) [i64_in, u8_in, vgd_t, vgd_f, wgd_t, wgd_f]
        refine ⟨by omega, ?_⟩
        (refine hk10 _ ?_; clear hk10)
        refine awp_seq' fun k11 hk11 => ?_
        refine awp_seq' fun k12 hk12 => awp_region (et := Try.et) Try.vtOK Try.etOK ?_
        simp (maxSteps := 5000000) (disch := first | (intro _; intros; contradiction) | omega) [i64_in, u8_in, vgd_t, vgd_f, wgd_t, wgd_f]
        (refine hk12 _ ?_; clear hk12)
        refine awp_block (awp_for (fun n s => ∃ (i : Nat) (g : Fi) (ins outs : List Int), n = ts.length - i ∧ i ≤ ts.length ∧ g.good ∧ outs ++ g.words = ins ∧ ins.length ≤ 16 + i ∧ s = ⟨[(11, tI .i64 i), (10, .c (.row 512 outs.length)), (9, .c (.row 448 ins.length)), (8, .c (.ptr 128 0)), (7, tB true), (2, .c (.d (dL ts)))], [(512, rI outs), (448, rI ins), (128, .box false g.c)]⟩) ts.length (weak_mk (by simp) (by simp; exact LeD.ext fun j hj => by omega) (by simp)) ⟨0, f, f.words, [], rfl, by omega, hg, rfl, by simp; omega, rfl⟩ ?_)
        rintro n s ⟨i, g, ins, outs, rfl, hi, gg, hio, hil, rfl⟩ k hk
        have hol : outs.length ≤ ins.length := by rw [← hio]; simp
        have hle := gg.len_eq
        have hce := gg.cap
        refine awp_seq' fun k13 hk13 => ?_
        refine awp_seq' fun k14 hk14 => awp_region (et := Try.et) Try.vtOK Try.etOK ?_
        simp (maxSteps := 5000000) (disch := first | (intro _; intros; contradiction) | omega) [i64_in, u8_in, vgd_t, vgd_f, wgd_t, wgd_f]
        (refine hk14 _ ?_; clear hk14)
        refine awp_cond rfl rfl (fun hc3 => ?_) (fun hc3 => ?_)
        · refine awp_skip ?_
          (refine hk13 _ ?_; clear hk13)
          simp at hc3
          refine awp_seq' fun k15 hk15 => ?_
          refine awp_block ?_
          refine awp_seq' fun k16 hk16 => awp_region (et := Try.et) Try.vtOK Try.etOK ?_
          simp (maxSteps := 5000000) (disch := first | (intro _; intros; contradiction) | omega) [i64_in, u8_in, vgd_t, vgd_f, wgd_t, wgd_f]
          (refine hk16 _ ?_; clear hk16)
          refine awp_seq' fun k17 hk17 => ?_
          refine awp_seq' fun k18 hk18 => awp_region (et := Try.et) Try.vtOK Try.etOK ?_
          simp (maxSteps := 5000000) (disch := first | (intro _; intros; contradiction) | omega) [i64_in, u8_in, vgd_t, vgd_f, wgd_t, wgd_f]
          refine ⟨by omega, ?_⟩
          generalize ht : ts[i] = tk
          have hlb := gg.len_eq
          have hcb := gg.cap
          obtain ⟨b1, hb1⟩ : ∃ b, (andV .i64 tk 1 == 0) = b := ⟨_, rfl⟩
          obtain ⟨b2, hb2⟩ : ∃ b, (andV .i64 tk 2 == 0) = b := ⟨_, rfl⟩
          have hb3 : (andV .i64 tk 2 != 0) = !b2 := by rw [← hb2]; rfl
          have h17 : ∀ (y : Ti) (ins' outs' : List Int) s, y.f.good → (y.wrote = true → b2 = true) → (y.has = true → b2 = true) → outs' ++ y.f.words = ins' → ins'.length ≤ 16 + (i + 1) →
              Weak s ⟨[(12, .c (.ptr 192 0)), (11, tI .i64 i), (10, .c (.row 512 outs'.length)), (9, .c (.row 448 ins'.length)), (8, .c (.ptr 128 0)), (7, tB true), (2, .c (.d (dL ts)))], [(192, .box false y.c), (512, rI outs'), (448, rI ins'), (128, .box false g.c)]⟩ → k17 s := by
            intro y ins' outs' s gy y1 y2 hio' hil' hw
            refine hk17 s (awp_weak hw ?_)
            refine awp_seq' fun k23 hk23 => ?_
            refine awp_seq' fun k24 hk24 => awp_region (et := Try.et) Try.vtOK Try.etOK ?_
            have h24 : ∀ s, Weak s ⟨[(112, tB false), (12, .c (.ptr 192 0)), (11, tI .i64 i), (10, .c (.row 512 outs'.length)), (9, .c (.row 448 ins'.length)), (8, .c (.ptr 128 0)), (7, tB true), (2, .c (.d (dL ts)))], [(192, .box false y.c), (512, rI outs'), (448, rI ins'), (128, .box false g.c)]⟩ → k24 s := by
              intro s hw
              refine hk24 s (awp_weak hw ?_)
              refine awp_cond rfl rfl (fun hc4 => ?_) (fun hc4 => ?_)
              · simp at hc4
              · refine awp_skip ?_
                (refine hk23 _ ?_; clear hk23)
                refine awp_region (et := Try.et) Try.vtOK Try.etOK ?_
                simp (maxSteps := 5000000) (disch := first | (intro _; intros; contradiction) | omega) [i64_in, u8_in, vgd_t, vgd_f, wgd_t, wgd_f]
                (refine hk15 _ ?_; clear hk15)
                refine awp_region (et := Try.et) Try.vtOK Try.etOK ?_
                simp (maxSteps := 5000000) (disch := first | (intro _; intros; contradiction) | omega) [i64_in, u8_in, vgd_t, vgd_f, wgd_t, wgd_f]
                exact hk _ _ _ (by omega) ⟨i + 1, y.f, ins', outs', rfl, by omega, gy, hio', by omega, rfl⟩ (weak_mk (by simp) (by simp) (by simp))
            cases hyw : y.wrote <;> cases hyh : y.has
            · simp (maxSteps := 5000000) (disch := first | (intro _; intros; contradiction) | omega) [i64_in, u8_in, vgd_t, vgd_f, wgd_t, wgd_f, hyw, hyh]
              refine vcall_fn rfl (by simp) (LeTs.refl _) (ref43_Valid_ok _ gy) ?_
              simp (maxSteps := 5000000) (disch := first | (intro _; intros; contradiction) | omega) [i64_in, u8_in, vgd_t, vgd_f, wgd_t, wgd_f]
              exact h24 _ (weak_mk (by simp) (by simp [hyw, hyh]) (by simp))
            · obtain rfl : b2 = true := y2 hyh
              simp (maxSteps := 5000000) (disch := first | (intro _; intros; contradiction) | omega) [i64_in, u8_in, vgd_t, vgd_f, wgd_t, wgd_f, hyw, hyh, ht, hb3]
              refine ⟨by omega, ?_⟩
              refine vcall_fn rfl (by simp) (LeTs.refl _) (ref43_Valid_ok _ gy) ?_
              simp (maxSteps := 5000000) (disch := first | (intro _; intros; contradiction) | omega) [i64_in, u8_in, vgd_t, vgd_f, wgd_t, wgd_f]
              exact h24 _ (weak_mk (by simp) (by simp [hyw, hyh]) (by simp))
            · obtain rfl : b2 = true := y1 hyw
              simp (maxSteps := 5000000) (disch := first | (intro _; intros; contradiction) | omega) [i64_in, u8_in, vgd_t, vgd_f, wgd_t, wgd_f, hyw, hyh, ht, hb3]
              refine ⟨by omega, ?_⟩
              refine vcall_fn rfl (by simp) (LeTs.refl _) (ref43_Valid_ok _ gy) ?_
              simp (maxSteps := 5000000) (disch := first | (intro _; intros; contradiction) | omega) [i64_in, u8_in, vgd_t, vgd_f, wgd_t, wgd_f]
              exact h24 _ (weak_mk (by simp) (by simp [hyw, hyh]) (by simp))
            · obtain rfl : b2 = true := y1 hyw
              simp (maxSteps := 5000000) (disch := first | (intro _; intros; contradiction) | omega) [i64_in, u8_in, vgd_t, vgd_f, wgd_t, wgd_f, hyw, hyh, ht, hb3]
              refine ⟨by omega, ?_⟩
              refine vcall_fn rfl (by simp) (LeTs.refl _) (ref43_Valid_ok _ gy) ?_
              simp (maxSteps := 5000000) (disch := first | (intro _; intros; contradiction) | omega) [i64_in, u8_in, vgd_t, vgd_f, wgd_t, wgd_f]
              exact h24 _ (weak_mk (by simp) (by simp [hyw, hyh]) (by simp))
          simp (maxSteps := 5000000) (disch := first | (intro _; intros; contradiction) | omega) [i64_in, u8_in, vgd_t, vgd_f, wgd_t, wgd_f, hb1]
          (refine hk18 _ ?_; clear hk18)
          refine awp_cond rfl rfl (fun hc4 => ?_) (fun hc4 => ?_)
          · refine awp_seq' fun k19 hk19 => awp_region_draw (et := Try.et) Try.mixed Try.vtOK Try.etOK ?_
            simp (maxSteps := 5000000) (disch := first | (intro _; intros; contradiction) | omega) [i64_in, u8_in, vgd_t, vgd_f, wgd_t, wgd_f, ht, hb2]
            refine ⟨by omega, ?_⟩
            refine wcall_fn rfl (by simp) (LeTs.refl _) (law43_write_S g b2 tk gg.took) ?_
            simp (maxSteps := 5000000) (disch := first | (intro _; intros; contradiction) | omega) [i64_in, u8_in, vgd_t, vgd_f, wgd_t, wgd_f]
            (refine ⟨by kernel_rfl, hk19 _ ?_⟩; clear hk19)
            refine awp_seq' fun k20 hk20 => awp_region (et := Try.et) Try.vtOK Try.etOK ?_
            simp (maxSteps := 5000000) (disch := first | (intro _; intros; contradiction) | omega) [i64_in, u8_in, vgd_t, vgd_f, wgd_t, wgd_f]
            (refine hk20 _ ?_; clear hk20)
            have gy := Fi.write_good gg b2 tk
            have hwy := Fi.words_write gg b2 tk
            refine awp_cond rfl rfl (fun hc5 => ?_) (fun hc5 => ?_)
            · refine awp_region (et := Try.et) Try.vtOK Try.etOK ?_
              simp (maxSteps := 5000000) (disch := first | (intro _; intros; contradiction) | omega) [i64_in, u8_in, vgd_t, vgd_f, wgd_t, wgd_f, ht]
              refine ⟨by omega, by omega, ?_⟩
              have e1 : b2 = true ∧ g.room = true := by simpa using hc5
              refine h17 ⟨g.write b2 tk, b2 && g.room, false, 0⟩ (ins ++ [tk]) outs _ gy (by simp [e1]) (by simp) (by simp only; rw [hwy, ← hio]; simp [e1]) (by simp; omega) (weak_mk (by simp) (by simp; exact appWF _ _) (by simp))
            · refine awp_skip ?_
              refine h17 ⟨g.write b2 tk, b2 && g.room, false, 0⟩ ins outs _ gy (by simp [hc5]) (by simp) (by simp only; rw [hwy, hc5, ← hio]; simp) (by omega) (weak_mk (by simp) (by simp) (by simp))
          · refine awp_seq' fun k21 hk21 => awp_region_draw (et := Try.et) Try.mixed Try.vtOK Try.etOK ?_
            simp (maxSteps := 5000000) (disch := first | (intro _; intros; contradiction) | omega) [i64_in, u8_in, vgd_t, vgd_f, wgd_t, wgd_f, ht, hb2]
            refine ⟨by omega, ?_⟩
            refine wcall_fn rfl (by simp) (LeTs.refl _) (law43_read_S g b2 gg.took) ?_
            simp (maxSteps := 5000000) (disch := first | (intro _; intros; contradiction) | omega) [i64_in, u8_in, vgd_t, vgd_f, wgd_t, wgd_f]
            (refine ⟨by kernel_rfl, hk21 _ ?_⟩; clear hk21)
            refine awp_seq' fun k22 hk22 => awp_region (et := Try.et) Try.vtOK Try.etOK ?_
            simp (maxSteps := 5000000) (disch := first | (intro _; intros; contradiction) | omega) [i64_in, u8_in, vgd_t, vgd_f, wgd_t, wgd_f]
            (refine hk22 _ ?_; clear hk22)
            have gy := Fi.read_good gg b2
            have hwy := Fi.words_read gg b2
            refine awp_cond rfl rfl (fun hc5 => ?_) (fun hc5 => ?_)
            · refine awp_region (et := Try.et) Try.vtOK Try.etOK ?_
              simp (maxSteps := 5000000) (disch := first | (intro _; intros; contradiction) | omega) [i64_in, u8_in, vgd_t, vgd_f, wgd_t, wgd_f]
              refine ⟨by omega, ?_⟩
              have e1 : b2 = true ∧ g.has = true := by simpa using hc5
              refine h17 ⟨g.read b2, false, b2 && g.has, if b2 && g.has then g.word 0 else 0⟩ ins (outs ++ [g.word 0]) _ gy (by simp) (by simp [e1]) (by simp only; rw [← hio, hwy]; simp [Fi.taken, e1]) (by omega) (weak_mk (by simp) (by simp [e1]; exact appWF _ _) (by simp))
            · refine awp_skip ?_
              refine h17 ⟨g.read b2, false, b2 && g.has, if b2 && g.has then g.word 0 else 0⟩ ins outs _ gy (by simp) (by simp [hc5]) (by simp only; rw [← hio, hwy]; simp [Fi.taken, hc5]) (by omega) (weak_mk (by simp) (by simp) (by simp))
        · refine awp_exit ?_
          simp at hc3 ⊢
          (refine hk11 _ ?_; clear hk11)
          refine awp_seq' fun k26 hk26 => awp_region (et := Try.et) Try.vtOK Try.etOK ?_
          simp (maxSteps := 5000000) (disch := first | (intro _; intros; contradiction) | omega) [i64_in, u8_in, vgd_t, vgd_f, wgd_t, wgd_f]
          refine vcall_fn rfl (by simp) (LeTs.refl _) (fifo_Words_S _ gg.took) ?_
          simp (maxSteps := 5000000) (disch := first | (intro _; intros; contradiction) | omega) [i64_in, u8_in, vgd_t, vgd_f, wgd_t, wgd_f]
          refine ⟨by omega, ?_⟩
          refine vcall_fn rfl (by simp) (by simp; exact ⟨hio ▸ appLn outs g.words _ (by simp), LeD_dL rfl fun j hj => rfl⟩) (ref01_Ints_S ins ins (by omega) (by omega)) ?_
          simp (maxSteps := 5000000) (disch := first | (intro _; intros; contradiction) | omega) [i64_in, u8_in, vgd_t, vgd_f, wgd_t, wgd_f]
          (refine hk26 _ ?_; clear hk26)
          refine awp_ret ⟨.inr rfl, ?_⟩
          simp
    simp (maxSteps := 5000000) (disch := first | (intro _; intros; contradiction) | omega) [i64_in, u8_in, vgd_t, vgd_f, wgd_t, wgd_f]
    refine ⟨fun g1 => h7 _ (decide (100 < (ts.length : Int))) (fun h => ?_) (weak_mk (by simp) (by simp) (by simp)), fun g1 => h7 _ true (fun h => by cases h) (weak_mk (by simp) (by simp) (by simp))⟩
    simp at h
    omega
end Go.Proofs

namespace Go.Proofs.Ytiajgnpobcidmaa.lawFifoOrder
open Go.V
set_option maxRecDepth 100000
set_option linter.unusedVariables false
theorem spec (dss : List (List D)) (h : FitsLL [[.int .u8], [.slice [.int .u8]], [.slice [.int .i64]]] dss) : FSpec Try.prog 4 (tsOf Try.vt [5, 22, 23] dss) [] (tB true) [] := by
  match dss, h with
  | [[c], [l], [x]], h =>
    simp only [FitsLL, FitsL, and_true] at h
    obtain ⟨hc, hl, hx⟩ := h
    cases hc with
    | @int _ c wc => cases hx with
      | @slice _ n2 f2 hn2 hl2 h2 =>
        cases hl with
        | @slice _ n f hn hl h =>
          obtain ⟨l, rfl, hl1, hl3⟩ := fits_bytes (.slice hn hl h)
          obtain ⟨l2, rfl, hl4⟩ := fits_ints (.slice hn2 hl2 h2)
          simp [Lit.wf, IntKind.min, IntKind.max, IntKind.signed, IntKind.bits] at wc
          refine FSpec.le (law43_FifoOrder_S c l l2 (by omega) hl1 (by unfold maxLen at hn2; omega)) ?_
          simp [tsOf, tOf]
          exact ⟨hl3, hl4⟩

theorem own : ownKnob Try.prog.godebug = none := by kernel_rfl
theorem laidOut : laidOutB Try.prog = true := by kernel_rfl
theorem lifted (os : Os) (started : os.Started) (H : Type) (enc : TypeId × Value → H) :
    ReturnsInHanded {} Try.checked os 4 .any (Rows.fifoOrderSpec.pre6 enc Try.prog Try.f4 Rows.fifoOrderRow.domain false) (Rows.fifoOrderSpec.post enc Try.prog Try.f4 false true false false) := by
  refine returnsInHanded_of_change (C := Try.checked) own started (by kernel_rfl) Try.func4
    (ChangeSpec.witness6 (enc := enc) (C := Try.checked) false ⟨#[], #[.int .u8 0, .slice none 0 0, .slice none 0 0], []⟩ 8 (by kernel_rfl) (by kernel_rfl) (by kernel_rfl) (by kernel_rfl)) ?_
  intro W base args ds gs before hval hW _ _
  refine law_contract (m := 9) Try.vtOK laidOut (ts := [5, 22, 23]) (by kernel_rfl) ?_ (tb := 4) (by kernel_rfl) Try.underlying4 rfl ?_ (shss := _) rfl spec W base args ds gs before hval hW
  · exact List.forall_mem_cons.2 ⟨⟨by kernel_rfl, of_decide_eq_true (by kernel_rfl)⟩, List.forall_mem_cons.2 ⟨⟨by kernel_rfl, of_decide_eq_true (by kernel_rfl)⟩, List.forall_mem_cons.2 ⟨⟨by kernel_rfl, of_decide_eq_true (by kernel_rfl)⟩, fun t ht => by cases ht⟩⟩⟩
  · intro ds h
    match ds, h with
    | [a, b, c], _ => rfl

theorem over : Rows.fifoOrderRow.holds Try.pinned (OpenSpec.ofChange Rows.fifoOrderSpec) :=
  OpenClaim.holds_of_wide 4 Try.f4 rfl rfl rfl rfl rfl rfl rfl ⟨rfl, rfl, rfl, rfl, rfl⟩ rfl rfl rfl rfl rfl (by kernel_rfl) Try.func4 (by kernel_rfl)
    (of_decide_eq_true (by kernel_rfl)) (by unfold Func.isWrapper; first | (rw [if_pos (by decide +kernel)]; kernel_rfl) | (rw [if_neg (by decide +kernel)]; exact ⟨rfl, rfl⟩))
    (fun os started H enc _ => lifted os started H enc)

theorem proved : Rows.FifoOrderSaid := over
end Go.Proofs.Ytiajgnpobcidmaa.lawFifoOrder
