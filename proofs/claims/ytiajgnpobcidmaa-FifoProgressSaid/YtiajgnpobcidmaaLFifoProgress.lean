/- FifoProgress holds: for every capacity, every list of bytes and every four bytes the Go function returns true, without a panic, and leaves its arguments as they were. No condition beyond the statement's own. -/
import Derived.Test.YtiajgnpobcidmaaVa
import Derived.Test.YtiajgnpobcidmaaVb
import Derived.Test.YtiajgnpobcidmaaVc
import Derived.Test.YtiajgnpobcidmaaVd
import Derived.Test.YtiajgnpobcidmaaT
import Derived.Test.YtiajgnpobcidmaaF
set_option linter.unusedSimpArgs false
set_option linter.unusedVariables false

namespace Go.Proofs
open Go.V IntWalk
set_option maxRecDepth 100000
set_option linter.unusedSimpArgs false
set_option linter.unusedVariables false

/-- Four bytes. -/
abbrev c4 (w x y z : Int) : List C := [.d (.s (.int .u8 w)), .d (.s (.int .u8 x)), .d (.s (.int .u8 y)), .d (.s (.int .u8 z))]

theorem law43_FifoProgress_S (c : Int) (l : List Int) (w x y z : Int) (hc : 0 ≤ c ∧ c < 256) (hl : ∀ b ∈ l, 0 ≤ b ∧ b < 256) (hw0 : 0 ≤ w ∧ w < 256) (hx0 : 0 ≤ x ∧ x < 256) (hy0 : 0 ≤ y ∧ y < 256) (hz0 : 0 ≤ z ∧ z < 256) :
    FSpec Try.prog 6 [.c (.d (.s (.int .u8 c))), .c (.d (dU l)), .agg (c4 w x y z)] [] (tB true) [] := by
  refine fspec_intro Try.func6 (by kernel_rfl) rfl Try.vtOK rfl Try.ntmps6 (by simp) ?_
  refine awp_seq' fun k1 hk1 => awp_region (et := Try.et) Try.vtOK Try.etOK ?_
  simp (maxSteps := 5000000) (disch := first | (intro _; intros; contradiction) | omega) [i64_in, u8_in, vgd_t, vgd_f, wgd_t, wgd_f]
  (refine hk1 _ ?_; clear hk1)
  refine awp_seq' fun k2 hk2 => awp_region (et := Try.et) Try.vtOK Try.etOK ?_
  simp (maxSteps := 5000000) (disch := first | (intro _; intros; contradiction) | omega) [i64_in, u8_in, vgd_t, vgd_f, wgd_t, wgd_f]
  refine vcall_fn rfl (by simp) (LeTs.refl _) (law43_examples_S) ?_
  simp (maxSteps := 5000000) (disch := first | (intro _; intros; contradiction) | omega) [i64_in, u8_in, vgd_t, vgd_f, wgd_t, wgd_f]
  (refine hk2 _ ?_; clear hk2)
  refine awp_seq' fun k3 hk3 => ?_
  refine awp_seq' fun k4 hk4 => awp_region (et := Try.et) Try.vtOK Try.etOK ?_
  simp (maxSteps := 5000000) (disch := first | (intro _; intros; contradiction) | omega) [i64_in, u8_in, vgd_t, vgd_f, wgd_t, wgd_f]
  (refine hk4 _ ?_; clear hk4)
  refine awp_cond rfl rfl (fun hc => ?_) (fun hc => ?_)
  · simp at hc
  · refine awp_skip ?_
    (refine hk3 _ ?_; clear hk3)
    refine awp_seq' fun k6 hk6 => ?_
    refine awp_seq' fun k7 hk7 => awp_region (et := Try.et) Try.vtOK Try.etOK ?_
    simp (maxSteps := 5000000) (disch := first | (intro _; intros; contradiction) | omega) [i64_in, u8_in, vgd_t, vgd_f, wgd_t, wgd_f]
    (refine hk7 _ ?_; clear hk7)
    refine awp_cond rfl rfl (fun hc2 => ?_) (fun hc2 => ?_)
    · refine awp_seq' fun k8 hk8 => awp_region (et := Try.et) Try.vtOK Try.etOK ?_
      simp (maxSteps := 5000000) (disch := first | (intro _; intros; contradiction) | omega) [i64_in, u8_in, vgd_t, vgd_f, wgd_t, wgd_f]
      (refine hk8 _ ?_; clear hk8)
      refine awp_ret ⟨.inr rfl, ?_⟩
      simp
    · refine awp_skip ?_
      simp at hc2
      (refine hk6 _ ?_; clear hk6)
      refine awp_seq' fun k9 hk9 => awp_region (et := Try.et) Try.vtOK Try.etOK ?_
      simp (maxSteps := 5000000) (disch := first | (intro _; intros; contradiction) | omega) [i64_in, u8_in, vgd_t, vgd_f, wgd_t, wgd_f]
      refine vcall_fn rfl (by simp) (LeTs.refl _) (ref43_Worn_S c l ‹0 ≤ c ∧ c < 256› hl (by omega)) ?_
      simp (maxSteps := 5000000) (disch := first | (intro _; intros; contradiction) | omega) [i64_in, u8_in, vgd_t, vgd_f, wgd_t, wgd_f]
      (refine hk9 _ ?_; clear hk9)
      have hg : (Fi.worn c l).good := Fi.worn_good (by omega) l
      generalize Fi.worn c l = f at *
      have hcf := hg.cap
      have hlf := hg.len_eq
      refine awp_seq' fun k10 hk10 => awp_region (et := Try.et) Try.vtOK Try.etOK ?_
      simp (maxSteps := 5000000) (disch := first | (intro _; intros; contradiction) | omega) [i64_in, u8_in, vgd_t, vgd_f, wgd_t, wgd_f]
      refine vcall_fn rfl (by simp) (LeTs.refl _) (fifo_Words_S f hg.took) ?_
      simp (maxSteps := 5000000) (disch := first | (intro _; intros; contradiction) | omega) [i64_in, u8_in, vgd_t, vgd_f, wgd_t, wgd_f]
      (refine hk10 _ ?_; clear hk10)
      refine awp_seq' fun k11 hk11 => awp_region_draw (et := Try.et) Try.mixed Try.vtOK Try.etOK ?_
      simp (maxSteps := 5000000) (disch := first | (intro _; intros; contradiction) | omega) [i64_in, u8_in, vgd_t, vgd_f, wgd_t, wgd_f]
      (refine ⟨by kernel_rfl, hk11 _ ?_⟩; clear hk11)
      refine awp_seq' fun k12 hk12 => ?_
      refine awp_seq' fun k13 hk13 => awp_region (et := Try.et) Try.vtOK Try.etOK ?_
      simp (maxSteps := 5000000) (disch := first | (intro _; intros; contradiction) | omega) [i64_in, u8_in, vgd_t, vgd_f, wgd_t, wgd_f]
      (refine hk13 _ ?_; clear hk13)
      refine awp_block (awp_for (fun n s => ∃ (i : Nat) (a b : Fi), n = 4 - i ∧ i ≤ 4 ∧ a.PA f.len i ∧ b.PB f.cap f.len i ∧ s = ⟨[(12, tI .i64 i), (11, .c (.ptr 176 0)), (10, .c (.ptr 160 0)), (9, tI .i64 f.len), (8, .c (.ptr 128 0)), (7, tB true), (5, .c (.ptr 80 0))], [(176, .box false b.c), (160, .box false a.c), (128, .box false f.c), (80, .box false (c4 w x y z))]⟩) 4 (weak_mk (by simp) (by simp) (by simp)) ⟨0, f, f, rfl, by omega, .start hg, .start hg, rfl⟩ ?_)
      rintro n s ⟨i, a, b, rfl, hi, pa, pb, rfl⟩ k hk
      refine awp_seq' fun k14 hk14 => ?_
      refine awp_seq' fun k15 hk15 => awp_region (et := Try.et) Try.vtOK Try.etOK ?_
      simp (maxSteps := 5000000) (disch := first | (intro _; intros; contradiction) | omega) [i64_in, u8_in, vgd_t, vgd_f, wgd_t, wgd_f]
      (refine hk15 _ ?_; clear hk15)
      refine awp_cond rfl rfl (fun hc3 => ?_) (fun hc3 => ?_)
      · refine awp_skip ?_
        (refine hk14 _ ?_; clear hk14)
        simp at hc3
        refine awp_seq' fun k16 hk16 => ?_
        refine awp_block ?_
        refine awp_seq' fun k17 hk17 => ?_
        have h17 : ∀ (a b : Fi) s, a.PA f.len (i + 1) → b.PB f.cap f.len (i + 1) → Weak s ⟨[(12, tI .i64 i), (11, .c (.ptr 176 0)), (10, .c (.ptr 160 0)), (9, tI .i64 f.len), (8, .c (.ptr 128 0)), (7, tB true), (5, .c (.ptr 80 0))], [(176, .box false b.c), (160, .box false a.c), (128, .box false f.c), (80, .box false (c4 w x y z))]⟩ → k17 s := by
          intro a b s pa pb hw
          refine hk17 s (awp_weak hw ?_)
          refine awp_seq' fun k22 hk22 => awp_region (et := Try.et) Try.vtOK Try.etOK ?_
          simp (maxSteps := 5000000) (disch := first | (intro _; intros; contradiction) | omega) [i64_in, u8_in, vgd_t, vgd_f, wgd_t, wgd_f]
          refine vcall_fn rfl (by simp) (LeTs.refl _) (ref43_Valid_ok a pa.good) ?_
          simp (maxSteps := 5000000) (disch := first | (intro _; intros; contradiction) | omega) [i64_in, u8_in, vgd_t, vgd_f, wgd_t, wgd_f]
          refine vcall_fn rfl (by simp) (LeTs.refl _) (ref43_Valid_ok b pb.good) ?_
          simp (maxSteps := 5000000) (disch := first | (intro _; intros; contradiction) | omega) [i64_in, u8_in, vgd_t, vgd_f, wgd_t, wgd_f]
          (refine hk22 _ ?_; clear hk22)
          refine awp_cond rfl rfl (fun hc4 => ?_) (fun hc4 => ?_)
          · simp at hc4
          · refine awp_skip ?_
            (refine hk16 _ ?_; clear hk16)
            refine awp_region (et := Try.et) Try.vtOK Try.etOK ?_
            simp (maxSteps := 5000000) (disch := first | (intro _; intros; contradiction) | omega) [i64_in, u8_in, vgd_t, vgd_f, wgd_t, wgd_f]
            exact hk _ _ _ (by omega) ⟨i + 1, a, b, rfl, by omega, pa, pb, rfl⟩ (weak_mk (by simp) (by simp) (by simp))
        have hi4 : i = 0 ∨ i = 1 ∨ i = 2 ∨ i = 3 := by omega
        refine awp_seq' fun k18 hk18 => awp_region (et := Try.et) Try.vtOK Try.etOK ?_
        rcases hi4 with rfl | rfl | rfl | rfl
        · simp (maxSteps := 5000000) (disch := first | (intro _; intros; contradiction) | omega) [i64_in, u8_in, vgd_t, vgd_f, wgd_t, wgd_f]
          (refine hk18 _ ?_; clear hk18)
          refine awp_cond rfl rfl (fun hc5 => ?_) (fun hc5 => ?_)
          · simp at hc5
          · refine awp_seq' fun k20 hk20 => awp_region (et := Try.et) Try.vtOK Try.etOK ?_
            simp (maxSteps := 5000000) (disch := first | (intro _; intros; contradiction) | omega) [i64_in, u8_in, vgd_t, vgd_f, wgd_t, wgd_f]
            (refine hk20 _ ?_; clear hk20)
            refine awp_cond rfl rfl (fun hc6 => ?_) (fun hc6 => ?_)
            · refine awp_seq' fun k21 hk21 => awp_region_draw (et := Try.et) Try.mixed Try.vtOK Try.etOK ?_
              simp (maxSteps := 5000000) (disch := first | (intro _; intros; contradiction) | omega) [i64_in, u8_in, vgd_t, vgd_f, wgd_t, wgd_f, Int.tmod_eq_emod_of_nonneg]
              refine wcall_fn rfl (by simp) (LeTs.refl _) (law43_write_S a (w % 2 == 0) w pa.good.took) ?_
              simp (maxSteps := 5000000) (disch := first | (intro _; intros; contradiction) | omega) [i64_in, u8_in, vgd_t, vgd_f, wgd_t, wgd_f]
              (refine ⟨by kernel_rfl, hk21 _ ?_⟩; clear hk21)
              refine awp_region_draw (et := Try.et) Try.mixed Try.vtOK Try.etOK ?_
              simp (maxSteps := 5000000) (disch := first | (intro _; intros; contradiction) | omega) [i64_in, u8_in, vgd_t, vgd_f, wgd_t, wgd_f, Int.tmod_eq_emod_of_nonneg]
              refine wcall_fn rfl (by simp) (LeTs.refl _) (law43_read_S b (w % 2 == 0) pb.good.took) ?_
              simp (maxSteps := 5000000) (disch := first | (intro _; intros; contradiction) | omega) [i64_in, u8_in, vgd_t, vgd_f, wgd_t, wgd_f]
              refine ⟨by kernel_rfl, ?_⟩
              exact h17 (a.write (w % 2 == 0) w) (b.read (w % 2 == 0)) _ (pa.write rfl _ _) (pb.read rfl _) (weak_mk (by simp) (by simp) (by simp))
            · refine awp_skip ?_
              exact h17 a b _ (pa.same rfl) (pb.same rfl) (weak_mk (by simp) (by simp) (by simp))
        · simp (maxSteps := 5000000) (disch := first | (intro _; intros; contradiction) | omega) [i64_in, u8_in, vgd_t, vgd_f, wgd_t, wgd_f]
          (refine hk18 _ ?_; clear hk18)
          refine awp_cond rfl rfl (fun hc5 => ?_) (fun hc5 => ?_)
          · refine awp_seq' fun k19 hk19 => awp_region (et := Try.et) Try.vtOK Try.etOK ?_
            simp (maxSteps := 5000000) (disch := first | (intro _; intros; contradiction) | omega) [i64_in, u8_in, vgd_t, vgd_f, wgd_t, wgd_f]
            refine vcall_fn rfl (by simp) (LeTs.refl _) (law43_read_S a false pa.good.took) ?_
            simp (maxSteps := 5000000) (disch := first | (intro _; intros; contradiction) | omega) [i64_in, u8_in, vgd_t, vgd_f, wgd_t, wgd_f]
            (refine hk19 _ ?_; clear hk19)
            refine awp_region (et := Try.et) Try.vtOK Try.etOK ?_
            simp (maxSteps := 5000000) (disch := first | (intro _; intros; contradiction) | omega) [i64_in, u8_in, vgd_t, vgd_f, wgd_t, wgd_f]
            refine vcall_fn rfl (by simp) (LeTs.refl _) (law43_write_S b false 0 pb.good.took) ?_
            simp (maxSteps := 5000000) (disch := first | (intro _; intros; contradiction) | omega) [i64_in, u8_in, vgd_t, vgd_f, wgd_t, wgd_f]
            exact h17 (a.read false) (b.write false 0) _ (pa.read rfl) (pb.write rfl) (weak_mk (by simp) (by simp) (by simp))
          · simp at hc5
        · simp (maxSteps := 5000000) (disch := first | (intro _; intros; contradiction) | omega) [i64_in, u8_in, vgd_t, vgd_f, wgd_t, wgd_f]
          (refine hk18 _ ?_; clear hk18)
          refine awp_cond rfl rfl (fun hc5 => ?_) (fun hc5 => ?_)
          · simp at hc5
          · refine awp_seq' fun k20 hk20 => awp_region (et := Try.et) Try.vtOK Try.etOK ?_
            simp (maxSteps := 5000000) (disch := first | (intro _; intros; contradiction) | omega) [i64_in, u8_in, vgd_t, vgd_f, wgd_t, wgd_f]
            (refine hk20 _ ?_; clear hk20)
            refine awp_cond rfl rfl (fun hc6 => ?_) (fun hc6 => ?_)
            · refine awp_seq' fun k21 hk21 => awp_region_draw (et := Try.et) Try.mixed Try.vtOK Try.etOK ?_
              simp (maxSteps := 5000000) (disch := first | (intro _; intros; contradiction) | omega) [i64_in, u8_in, vgd_t, vgd_f, wgd_t, wgd_f, Int.tmod_eq_emod_of_nonneg]
              refine wcall_fn rfl (by simp) (LeTs.refl _) (law43_write_S a (y % 2 == 0) y pa.good.took) ?_
              simp (maxSteps := 5000000) (disch := first | (intro _; intros; contradiction) | omega) [i64_in, u8_in, vgd_t, vgd_f, wgd_t, wgd_f]
              (refine ⟨by kernel_rfl, hk21 _ ?_⟩; clear hk21)
              refine awp_region_draw (et := Try.et) Try.mixed Try.vtOK Try.etOK ?_
              simp (maxSteps := 5000000) (disch := first | (intro _; intros; contradiction) | omega) [i64_in, u8_in, vgd_t, vgd_f, wgd_t, wgd_f, Int.tmod_eq_emod_of_nonneg]
              refine wcall_fn rfl (by simp) (LeTs.refl _) (law43_read_S b (y % 2 == 0) pb.good.took) ?_
              simp (maxSteps := 5000000) (disch := first | (intro _; intros; contradiction) | omega) [i64_in, u8_in, vgd_t, vgd_f, wgd_t, wgd_f]
              refine ⟨by kernel_rfl, ?_⟩
              exact h17 (a.write (y % 2 == 0) y) (b.read (y % 2 == 0)) _ (pa.write rfl _ _) (pb.read rfl _) (weak_mk (by simp) (by simp) (by simp))
            · refine awp_skip ?_
              exact h17 a b _ (pa.same rfl) (pb.same rfl) (weak_mk (by simp) (by simp) (by simp))
        · simp (maxSteps := 5000000) (disch := first | (intro _; intros; contradiction) | omega) [i64_in, u8_in, vgd_t, vgd_f, wgd_t, wgd_f]
          (refine hk18 _ ?_; clear hk18)
          refine awp_cond rfl rfl (fun hc5 => ?_) (fun hc5 => ?_)
          · refine awp_seq' fun k19 hk19 => awp_region (et := Try.et) Try.vtOK Try.etOK ?_
            simp (maxSteps := 5000000) (disch := first | (intro _; intros; contradiction) | omega) [i64_in, u8_in, vgd_t, vgd_f, wgd_t, wgd_f]
            refine vcall_fn rfl (by simp) (LeTs.refl _) (law43_read_S a false pa.good.took) ?_
            simp (maxSteps := 5000000) (disch := first | (intro _; intros; contradiction) | omega) [i64_in, u8_in, vgd_t, vgd_f, wgd_t, wgd_f]
            (refine hk19 _ ?_; clear hk19)
            refine awp_region (et := Try.et) Try.vtOK Try.etOK ?_
            simp (maxSteps := 5000000) (disch := first | (intro _; intros; contradiction) | omega) [i64_in, u8_in, vgd_t, vgd_f, wgd_t, wgd_f]
            refine vcall_fn rfl (by simp) (LeTs.refl _) (law43_write_S b false 0 pb.good.took) ?_
            simp (maxSteps := 5000000) (disch := first | (intro _; intros; contradiction) | omega) [i64_in, u8_in, vgd_t, vgd_f, wgd_t, wgd_f]
            exact h17 (a.read false) (b.write false 0) _ (pa.read rfl) (pb.write rfl) (weak_mk (by simp) (by simp) (by simp))
          · simp at hc5
      · refine awp_exit ?_
        simp at hc3 ⊢
        have hi4 : i = 4 := by omega
        subst hi4
        (refine hk12 _ ?_; clear hk12)
        refine awp_seq' fun k24 hk24 => awp_region (et := Try.et) Try.vtOK Try.etOK ?_
        by_cases z0 : f.len = 0
        · have z1 : ¬ (0 : Int) = f.cap := by omega
          simp (maxSteps := 5000000) (disch := first | (intro _; intros; contradiction) | omega) [i64_in, u8_in, vgd_t, vgd_f, wgd_t, wgd_f, z0, z1]
          refine vcall_fn rfl (by simp) (LeTs.refl _) (fifo_Room_H b pb.good) ?_
          simp (maxSteps := 5000000) (disch := first | (intro _; intros; contradiction) | omega) [i64_in, u8_in, vgd_t, vgd_f, wgd_t, wgd_f, pb.room (by omega)]
          refine vcall_fn rfl (by simp) (LeTs.refl _) (fifo_Valid_ok a pa.good) ?_
          simp (maxSteps := 5000000) (disch := first | (intro _; intros; contradiction) | omega) [i64_in, u8_in, vgd_t, vgd_f, wgd_t, wgd_f]
          refine vcall_fn rfl (by simp) (LeTs.refl _) (fifo_Valid_ok b pb.good) ?_
          simp (maxSteps := 5000000) (disch := first | (intro _; intros; contradiction) | omega) [i64_in, u8_in, vgd_t, vgd_f, wgd_t, wgd_f]
          (refine hk24 _ ?_; clear hk24)
          refine awp_ret ⟨.inr rfl, ?_⟩
          simp
        · by_cases z1 : (f.len : Int) = f.cap
          · simp (maxSteps := 5000000) (disch := first | (intro _; intros; contradiction) | omega) [i64_in, u8_in, vgd_t, vgd_f, wgd_t, wgd_f, z0]
            refine vcall_fn rfl (by simp) (LeTs.refl _) (fifo_Has_H a) ?_
            simp (maxSteps := 5000000) (disch := first | (intro _; intros; contradiction) | omega) [i64_in, u8_in, vgd_t, vgd_f, wgd_t, wgd_f, pa.has z0, z1]
            refine vcall_fn rfl (by simp) (LeTs.refl _) (fifo_Valid_ok a pa.good) ?_
            simp (maxSteps := 5000000) (disch := first | (intro _; intros; contradiction) | omega) [i64_in, u8_in, vgd_t, vgd_f, wgd_t, wgd_f]
            refine vcall_fn rfl (by simp) (LeTs.refl _) (fifo_Valid_ok b pb.good) ?_
            simp (maxSteps := 5000000) (disch := first | (intro _; intros; contradiction) | omega) [i64_in, u8_in, vgd_t, vgd_f, wgd_t, wgd_f]
            (refine hk24 _ ?_; clear hk24)
            refine awp_ret ⟨.inr rfl, ?_⟩
            simp
          · simp (maxSteps := 5000000) (disch := first | (intro _; intros; contradiction) | omega) [i64_in, u8_in, vgd_t, vgd_f, wgd_t, wgd_f, z0]
            refine vcall_fn rfl (by simp) (LeTs.refl _) (fifo_Has_H a) ?_
            simp (maxSteps := 5000000) (disch := first | (intro _; intros; contradiction) | omega) [i64_in, u8_in, vgd_t, vgd_f, wgd_t, wgd_f, pa.has z0, z1]
            refine vcall_fn rfl (by simp) (LeTs.refl _) (fifo_Room_H b pb.good) ?_
            simp (maxSteps := 5000000) (disch := first | (intro _; intros; contradiction) | omega) [i64_in, u8_in, vgd_t, vgd_f, wgd_t, wgd_f, pb.room (by omega)]
            refine vcall_fn rfl (by simp) (LeTs.refl _) (fifo_Valid_ok a pa.good) ?_
            simp (maxSteps := 5000000) (disch := first | (intro _; intros; contradiction) | omega) [i64_in, u8_in, vgd_t, vgd_f, wgd_t, wgd_f]
            refine vcall_fn rfl (by simp) (LeTs.refl _) (fifo_Valid_ok b pb.good) ?_
            simp (maxSteps := 5000000) (disch := first | (intro _; intros; contradiction) | omega) [i64_in, u8_in, vgd_t, vgd_f, wgd_t, wgd_f]
            (refine hk24 _ ?_; clear hk24)
            refine awp_ret ⟨.inr rfl, ?_⟩
            simp
end Go.Proofs

namespace Go.Proofs.Ytiajgnpobcidmaa.lawFifoProgress
open Go.V
set_option maxRecDepth 100000
set_option linter.unusedVariables false
theorem spec (dss : List (List D)) (h : FitsLL [[.int .u8], [.slice [.int .u8]], [.int .u8, .int .u8, .int .u8, .int .u8]] dss) : FSpec Try.prog 6 (tsOf Try.vt [5, 22, 49] dss) [] (tB true) [] := by
  match dss, h with
  | [[c], [l], [w, x, y, z]], h =>
    simp only [FitsLL, FitsL, and_true] at h
    obtain ⟨hc, hl, hw, hx, hy, hz⟩ := h
    cases hc with
    | @int _ c wc => cases hx with
      | @int _ x wx => cases hy with
        | @int _ y wy => cases hw with
          | @int _ w ww => cases hz with
            | @int _ z wz =>
              cases hl with
              | @slice _ n f hn hl h =>
                obtain ⟨l, rfl, hl1, hl2⟩ := fits_bytes (.slice hn hl h)
                simp [Lit.wf, IntKind.min, IntKind.max, IntKind.signed, IntKind.bits] at wc wx wy ww wz
                refine FSpec.le (law43_FifoProgress_S c l w x y z (by omega) hl1 (by omega) (by omega) (by omega) (by omega)) ?_
                simp [tsOf, tOf]
                exact hl2

theorem own : ownKnob Try.prog.godebug = none := by kernel_rfl
theorem laidOut : laidOutB Try.prog = true := by kernel_rfl
theorem lifted (os : Os) (started : os.Started) (H : Type) (enc : TypeId × Value → H) :
    ReturnsInHanded {} Try.checked os 6 .any (Rows.fifoProgressSpec.pre6 enc Try.prog Try.f6 Rows.fifoProgressRow.domain false) (Rows.fifoProgressSpec.post enc Try.prog Try.f6 false true false false) := by
  refine returnsInHanded_of_change (C := Try.checked) own started (by kernel_rfl) Try.func6
    (ChangeSpec.witness6 (enc := enc) (C := Try.checked) false ⟨#[], #[.int .u8 0, .slice none 0 0, .agg #[.int .u8 0, .int .u8 0, .int .u8 0, .int .u8 0]], []⟩ 8 (by kernel_rfl) (by kernel_rfl) (by kernel_rfl) (by kernel_rfl)) ?_
  intro W base args ds gs before hval hW _ _
  refine law_contract (m := 9) Try.vtOK laidOut (ts := [5, 22, 49]) (by kernel_rfl) ?_ (tb := 4) (by kernel_rfl) Try.underlying4 rfl ?_ (shss := _) rfl spec W base args ds gs before hval hW
  · exact List.forall_mem_cons.2 ⟨⟨by kernel_rfl, of_decide_eq_true (by kernel_rfl)⟩, List.forall_mem_cons.2 ⟨⟨by kernel_rfl, of_decide_eq_true (by kernel_rfl)⟩, List.forall_mem_cons.2 ⟨⟨by kernel_rfl, of_decide_eq_true (by kernel_rfl)⟩, fun t ht => by cases ht⟩⟩⟩
  · intro ds h
    match ds, h with
    | [a, b, c], _ => rfl

theorem over : Rows.fifoProgressRow.holds Try.pinned (OpenSpec.ofChange Rows.fifoProgressSpec) :=
  OpenClaim.holds_of_wide 6 Try.f6 rfl rfl rfl rfl rfl rfl rfl ⟨rfl, rfl, rfl, rfl, rfl⟩ rfl rfl rfl rfl rfl (by kernel_rfl) Try.func6 (by kernel_rfl)
    (of_decide_eq_true (by kernel_rfl)) (by unfold Func.isWrapper; first | (rw [if_pos (by decide +kernel)]; kernel_rfl) | (rw [if_neg (by decide +kernel)]; exact ⟨rfl, rfl⟩))
    (fun os started H enc _ => lifted os started H enc)

theorem proved : Rows.FifoProgressSaid := over
end Go.Proofs.Ytiajgnpobcidmaa.lawFifoProgress
