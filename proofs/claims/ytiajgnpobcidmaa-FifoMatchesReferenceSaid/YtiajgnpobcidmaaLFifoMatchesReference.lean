/- FifoMatchesReference holds: for every capacity, every list of bytes and every queue the Go function returns true, without a panic, and leaves its arguments as they were. No condition beyond the statement's own. -/
import Derived.Test.YtiajgnpobcidmaaVa
import Derived.Test.YtiajgnpobcidmaaVb
import Derived.Test.YtiajgnpobcidmaaVc
import Derived.Test.YtiajgnpobcidmaaVd
import Derived.Test.YtiajgnpobcidmaaT
import Derived.Test.YtiajgnpobcidmaaF
set_option linter.unusedSimpArgs false
set_option linter.unusedVariables false

namespace Go.Proofs
open Go.V IntWalk
set_option maxRecDepth 100000
set_option linter.unusedSimpArgs false
set_option linter.unusedVariables false

/-- A queue's cells as data. -/
@[simp] def Fi.ds (x : Fi) : List D := [.s (.int .i64 x.cap), dL x.ws, .s (.int .i64 x.wr), .s (.int .i64 x.rd), .s (.int .i64 x.s0), .s (.int .i64 x.s1), .s (.int .i64 x.t0), .s (.int .i64 x.t1)]

theorem law43_FifoMatchesReference_S (c : Int) (l : List Int) (z : Fi) (hc : 0 ≤ c ∧ c < 256) (hl : ∀ b ∈ l, 0 ≤ b ∧ b < 256) :
    FSpec Try.prog 3 [.c (.d (.s (.int .u8 c))), .c (.d (dU l)), .agg z.c] [] (tB true) [] := by
  refine fspec_intro Try.func3 (by kernel_rfl) rfl Try.vtOK rfl Try.ntmps3 (by simp) ?_
  refine awp_seq' fun k1 hk1 => awp_region (et := Try.et) Try.vtOK Try.etOK ?_
  simp (maxSteps := 5000000) (disch := first | (intro _; intros; contradiction) | omega) [i64_in, u8_in, vgd_t, vgd_f, wgd_t, wgd_f]
  (refine hk1 _ ?_; clear hk1)
  refine awp_seq' fun k2 hk2 => awp_region (et := Try.et) Try.vtOK Try.etOK ?_
  simp (maxSteps := 5000000) (disch := first | (intro _; intros; contradiction) | omega) [i64_in, u8_in, vgd_t, vgd_f, wgd_t, wgd_f]
  refine vcall_fn rfl (by simp) (LeTs.refl _) (law43_examples_S) ?_
  simp (maxSteps := 5000000) (disch := first | (intro _; intros; contradiction) | omega) [i64_in, u8_in, vgd_t, vgd_f, wgd_t, wgd_f]
  (refine hk2 _ ?_; clear hk2)
  refine awp_seq' fun k3 hk3 => ?_
  refine awp_seq' fun k4 hk4 => awp_region (et := Try.et) Try.vtOK Try.etOK ?_
  simp (maxSteps := 5000000) (disch := first | (intro _; intros; contradiction) | omega) [i64_in, u8_in, vgd_t, vgd_f, wgd_t, wgd_f]
  (refine hk4 _ ?_; clear hk4)
  refine awp_cond rfl rfl (fun hc => ?_) (fun hc => ?_)
  · simp at hc
  · refine awp_skip ?_
    (refine hk3 _ ?_; clear hk3)
    refine awp_seq' fun k6 hk6 => ?_
    refine awp_seq' fun k7 hk7 => awp_region (et := Try.et) Try.vtOK Try.etOK ?_
    have h7 : ∀ s b, (b = false → l.length ≤ 60 ∧ z.ws.length ≤ 20) → Weak s ⟨[(26, tB b), (0, .c (.d (.s (.int .u8 c)))), (1, .c (.d (dU l))), (5, .c (.ptr 80 0)), (7, tB true)], [(80, .box false z.c)]⟩ → k7 s := by
      intro s b hb hw
      refine hk7 s (awp_weak hw ?_)
      refine awp_cond rfl rfl (fun hc2 => ?_) (fun hc2 => ?_)
      · refine awp_seq' fun k8 hk8 => awp_region (et := Try.et) Try.vtOK Try.etOK ?_
        simp (maxSteps := 5000000) (disch := first | (intro _; intros; contradiction) | omega) [i64_in, u8_in, vgd_t, vgd_f, wgd_t, wgd_f]
        (refine hk8 _ ?_; clear hk8)
        refine awp_ret ⟨.inr rfl, ?_⟩
        simp
      · refine awp_skip ?_
        obtain ⟨hc2, hzl⟩ := hb hc2
        (refine hk6 _ ?_; clear hk6)
        refine awp_seq' fun k9 hk9 => awp_region (et := Try.et) Try.vtOK Try.etOK ?_
        simp (maxSteps := 5000000) (disch := first | (intro _; intros; contradiction) | omega) [i64_in, u8_in, vgd_t, vgd_f, wgd_t, wgd_f]
        refine vcall_fn rfl (by simp) (LeTs.refl _) (ref43_Worn_S c l ‹0 ≤ c ∧ c < 256› hl (by omega)) ?_
        simp (maxSteps := 5000000) (disch := first | (intro _; intros; contradiction) | omega) [i64_in, u8_in, vgd_t, vgd_f, wgd_t, wgd_f]
        (refine hk9 _ ?_; clear hk9)
        have hg : (Fi.worn c l).good := Fi.worn_good (by omega) l
        generalize Fi.worn c l = f at *
        have hcf := hg.cap
        have hlf := hg.len_eq
        have hwf := hg.ws
        refine awp_seq' fun k10 hk10 => awp_region (et := Try.et) Try.vtOK Try.etOK ?_
        simp (maxSteps := 5000000) (disch := first | (intro _; intros; contradiction) | omega) [i64_in, u8_in, vgd_t, vgd_f, wgd_t, wgd_f]
        (refine hk10 _ ?_; clear hk10)
        refine awp_seq' fun k11 hk11 => awp_region_draw (et := Try.et) Try.mixed Try.vtOK Try.etOK ?_
        simp (maxSteps := 5000000) (disch := first | (intro _; intros; contradiction) | omega) [i64_in, u8_in, vgd_t, vgd_f, wgd_t, wgd_f]
        (refine ⟨by kernel_rfl, hk11 _ ?_⟩; clear hk11)
        obtain ⟨g, hgd⟩ : ∃ g : Fi, g = { f with wr := z.wr, t0 := z.t0, t1 := z.t1, s0 := z.s0 } := ⟨_, rfl⟩
        obtain ⟨X, hX⟩ : ∃ X : Nat → Fi, X = fun j => [f, g, z][j]?.getD Fi.none := ⟨_, rfl⟩
        have hXl : ∀ j, (X j).ws.length ≤ 20 := fun j => by
          subst hX
          have : j = 0 ∨ j = 1 ∨ j = 2 ∨ 3 ≤ j := by omega
          rcases this with rfl | rfl | rfl | h
          · simp; omega
          · simp [hgd]; omega
          · simp; omega
          · simp [List.getElem?_eq_none (show [f, g, z].length ≤ j from h)]
        refine awp_seq' fun k12 hk12 => awp_region (et := Try.et) Try.vtOK Try.etOK ?_
        simp (maxSteps := 5000000) (disch := first | (intro _; intros; contradiction) | omega) [i64_in, u8_in, vgd_t, vgd_f, wgd_t, wgd_f]
        refine hk12 _ (awp_weak (st' := ⟨[(10, .c (.row 736 3)), (5, .c (.ptr 80 0)), (7, tB true)], [(736, .row false 26 8 3 fun j => (X j).ds), (80, .box false z.c)]⟩) (weak_mk (by simp) ?_ (by simp)) ?_)
        · simp
          refine LeD.ext fun j hj => ?_
          subst hX hgd
          have : j = 0 ∨ j = 1 ∨ j = 2 := by omega
          rcases this with rfl | rfl | rfl <;> rfl
        refine awp_seq' fun k13 hk13 => awp_region (et := Try.et) Try.vtOK Try.etOK ?_
        have h13 : ∀ (y : Fi) (e : Int) s, y.ws.length < 1000000 → FSpec Try.prog 16 [tI .i64 z.cap] [] (.agg (y.c ++ [.d (.s (.int .i64 e))])) [] →
            Weak s ⟨[(11, .c (.ptr 176 0)), (10, .c (.row 736 3)), (5, .c (.ptr 80 0)), (7, tB true)], [(176, .box false (y.c ++ [.d (.s (.int .i64 e))])), (736, .row false 26 8 3 fun j => (X j).ds), (80, .box false z.c)]⟩ → k13 s := by
          intro y e s hyl hnew hw
          refine hk13 s (awp_weak hw ?_)
          refine awp_seq' fun k14 hk14 => awp_region (et := Try.et) Try.vtOK Try.etOK ?_
          simp (maxSteps := 5000000) (disch := first | (intro _; intros; contradiction) | omega) [i64_in, u8_in, vgd_t, vgd_f, wgd_t, wgd_f]
          refine vcall_fn rfl (by simp) (LeTs.refl _) (hnew) ?_
          simp (maxSteps := 5000000) (disch := first | (intro _; intros; contradiction) | omega) [i64_in, u8_in, vgd_t, vgd_f, wgd_t, wgd_f]
          (refine hk14 _ ?_; clear hk14)
          refine awp_seq' fun k15 hk15 => ?_
          refine awp_seq' fun k16 hk16 => awp_region (et := Try.et) Try.vtOK Try.etOK ?_
          simp (maxSteps := 5000000) (disch := first | (intro _; intros; contradiction) | omega) [i64_in, u8_in, vgd_t, vgd_f, wgd_t, wgd_f]
          refine vcall_fn rfl (by simp) (LeTs.refl _) (ref43_Same_S y y hyl hyl) ?_
          simp (maxSteps := 5000000) (disch := first | (intro _; intros; contradiction) | omega) [i64_in, u8_in, vgd_t, vgd_f, wgd_t, wgd_f]
          (refine hk16 _ ?_; clear hk16)
          refine awp_cond rfl rfl (fun hc3 => ?_) (fun hc3 => ?_)
          · simp at hc3
          · refine awp_skip ?_
            (refine hk15 _ ?_; clear hk15)
            refine awp_seq' fun k18 hk18 => ?_
            refine awp_seq' fun k19 hk19 => awp_region (et := Try.et) Try.vtOK Try.etOK ?_
            simp (maxSteps := 5000000) (disch := first | (intro _; intros; contradiction) | omega) [i64_in, u8_in, vgd_t, vgd_f, wgd_t, wgd_f]
            (refine hk19 _ ?_; clear hk19)
            refine awp_block (awp_for (fun n s => ∃ i : Nat, n = 3 - i ∧ i ≤ 3 ∧ s = ⟨[(13, tI .i64 i), (10, .c (.row 736 3)), (5, .c (.ptr 80 0)), (7, tB true)], [(736, .row false 26 8 3 fun j => (X j).ds), (80, .box false z.c)]⟩) 3 (weak_mk (by simp) (by simp) (by simp)) ⟨0, rfl, by omega, rfl⟩ ?_)
            rintro n s ⟨i, rfl, hi, rfl⟩ k hk
            refine awp_seq' fun k20 hk20 => ?_
            refine awp_seq' fun k21 hk21 => awp_region (et := Try.et) Try.vtOK Try.etOK ?_
            simp (maxSteps := 5000000) (disch := first | (intro _; intros; contradiction) | omega) [i64_in, u8_in, vgd_t, vgd_f, wgd_t, wgd_f]
            (refine hk21 _ ?_; clear hk21)
            refine awp_cond rfl rfl (fun hc4 => ?_) (fun hc4 => ?_)
            · refine awp_skip ?_
              (refine hk20 _ ?_; clear hk20)
              simp at hc4
              refine awp_seq' fun k22 hk22 => ?_
              have h22 : ∀ s, Weak s ⟨[(13, tI .i64 i), (10, .c (.row 736 3)), (5, .c (.ptr 80 0)), (7, tB true)], [(736, .row false 26 8 3 fun j => (X j).ds), (80, .box false z.c)]⟩ → k22 s := by
                intro s hw
                refine hk22 s (awp_weak hw ?_)
                refine awp_region (et := Try.et) Try.vtOK Try.etOK ?_
                simp (maxSteps := 5000000) (disch := first | (intro _; intros; contradiction) | omega) [i64_in, u8_in, vgd_t, vgd_f, wgd_t, wgd_f]
                exact hk _ _ _ (by omega) ⟨i + 1, rfl, by omega, rfl⟩ (weak_mk (by simp) (by simp) (by simp))
              have hxl := hXl i
              refine awp_block ?_
              refine awp_seq' fun k23 hk23 => awp_region (et := Try.et) Try.vtOK Try.etOK ?_
              simp (maxSteps := 5000000) (disch := first | (intro _; intros; contradiction) | omega) [i64_in, u8_in, vgd_t, vgd_f, wgd_t, wgd_f]
              refine ⟨by omega, ?_⟩
              generalize X i = x at *
              (refine hk23 _ ?_; clear hk23)
              refine awp_seq' fun k24 hk24 => ?_
              refine awp_seq' fun k25 hk25 => awp_region_draw (et := Try.et) Try.mixed Try.vtOK Try.etOK ?_
              simp (maxSteps := 5000000) (disch := first | (intro _; intros; contradiction) | omega) [i64_in, u8_in, vgd_t, vgd_f, wgd_t, wgd_f]
              refine wcall_fn rfl (by simp) (LeTs.refl _) (fifo_Valid_S x (by omega)) ?_
              simp (maxSteps := 5000000) (disch := first | (intro _; intros; contradiction) | omega) [i64_in, u8_in, vgd_t, vgd_f, wgd_t, wgd_f]
              refine wcall_fn rfl (by simp) (LeTs.refl _) (ref43_Valid_S x (by omega)) ?_
              simp (maxSteps := 5000000) (disch := first | (intro _; intros; contradiction) | omega) [i64_in, u8_in, vgd_t, vgd_f, wgd_t, wgd_f]
              (refine ⟨by kernel_rfl, hk25 _ ?_⟩; clear hk25)
              refine awp_cond rfl rfl (fun hc5 => ?_) (fun hc5 => ?_)
              · simp at hc5
              · refine awp_skip ?_
                (refine hk24 _ ?_; clear hk24)
                refine awp_seq' fun k27 hk27 => ?_
                refine awp_seq' fun k28 hk28 => awp_region (et := Try.et) Try.vtOK Try.etOK ?_
                simp (maxSteps := 5000000) (disch := first | (intro _; intros; contradiction) | omega) [i64_in, u8_in, vgd_t, vgd_f, wgd_t, wgd_f]
                refine vcall_fn rfl (by simp) (LeTs.refl _) (ref43_Valid_S x (by omega)) ?_
                simp (maxSteps := 5000000) (disch := first | (intro _; intros; contradiction) | omega) [i64_in, u8_in, vgd_t, vgd_f, wgd_t, wgd_f]
                (refine hk28 _ ?_; clear hk28)
                by_cases gx : x.good
                · refine awp_cond rfl rfl (fun hc6 => ?_) (fun hc6 => ?_)
                  · simp [gx] at hc6
                  · refine awp_skip ?_
                    (refine hk27 _ ?_; clear hk27)
                    have wl : ∀ b, (x.write b z.rd).ws.length < 1000000 := fun b => by
                      have := Fi.write_good gx b z.rd
                      have h1 := this.ws
                      have h2 := this.cap
                      omega
                    have rl : ∀ b, (x.read b).ws.length < 1000000 := fun b => by
                      have := Fi.read_good gx b
                      have h1 := this.ws
                      have h2 := this.cap
                      omega
                    have wdl : x.words.length < 1000000 := by
                      have := gx.len_eq
                      have := gx.cap
                      simp
                      omega
                    refine awp_seq' fun k29 hk29 => awp_region_draw (et := Try.et) Try.mixed Try.vtOK Try.etOK ?_
                    simp (maxSteps := 5000000) (disch := first | (intro _; intros; contradiction) | omega) [i64_in, u8_in, vgd_t, vgd_f, wgd_t, wgd_f]
                    refine wcall_fn rfl (by simp) (LeTs.refl _) (law43_write_S x true z.rd gx.took) ?_
                    simp (maxSteps := 5000000) (disch := first | (intro _; intros; contradiction) | omega) [i64_in, u8_in, vgd_t, vgd_f, wgd_t, wgd_f]
                    refine wcall_fn rfl (by simp) (LeTs.refl _) (ref43_WriteIn_S x true z.rd gx.took) ?_
                    simp (maxSteps := 5000000) (disch := first | (intro _; intros; contradiction) | omega) [i64_in, u8_in, vgd_t, vgd_f, wgd_t, wgd_f]
                    refine wcall_fn rfl (by simp) (LeTs.refl _) (law43_same_S ⟨x.write true z.rd, true && x.room, false, 0⟩ ⟨x.write true z.rd, true && x.room, false, 0⟩ (wl true) (wl true)) ?_
                    simp (maxSteps := 5000000) (disch := first | (intro _; intros; contradiction) | omega) [i64_in, u8_in, vgd_t, vgd_f, wgd_t, wgd_f]
                    refine wcall_fn rfl (by simp) (LeTs.refl _) (law43_write_S x false z.rd gx.took) ?_
                    simp (maxSteps := 5000000) (disch := first | (intro _; intros; contradiction) | omega) [i64_in, u8_in, vgd_t, vgd_f, wgd_t, wgd_f]
                    refine wcall_fn rfl (by simp) (LeTs.refl _) (ref43_WriteIn_S x false z.rd gx.took) ?_
                    simp (maxSteps := 5000000) (disch := first | (intro _; intros; contradiction) | omega) [i64_in, u8_in, vgd_t, vgd_f, wgd_t, wgd_f]
                    refine wcall_fn rfl (by simp) (LeTs.refl _) (law43_same_S ⟨x.write false z.rd, false && x.room, false, 0⟩ ⟨x.write false z.rd, false && x.room, false, 0⟩ (wl false) (wl false)) ?_
                    simp (maxSteps := 5000000) (disch := first | (intro _; intros; contradiction) | omega) [i64_in, u8_in, vgd_t, vgd_f, wgd_t, wgd_f]
                    refine wcall_fn rfl (by simp) (LeTs.refl _) (law43_read_S x true gx.took) ?_
                    simp (maxSteps := 5000000) (disch := first | (intro _; intros; contradiction) | omega) [i64_in, u8_in, vgd_t, vgd_f, wgd_t, wgd_f]
                    refine wcall_fn rfl (by simp) (LeTs.refl _) (ref43_ReadIn_S x true gx.took) ?_
                    simp (maxSteps := 5000000) (disch := first | (intro _; intros; contradiction) | omega) [i64_in, u8_in, vgd_t, vgd_f, wgd_t, wgd_f]
                    refine wcall_fn rfl (by simp) (LeTs.refl _) (law43_same_S ⟨x.read true, false, true && x.has, if true && x.has then x.word 0 else 0⟩ ⟨x.read true, false, true && x.has, if true && x.has then x.word 0 else 0⟩ (rl true) (rl true)) ?_
                    simp (maxSteps := 5000000) (disch := first | (intro _; intros; contradiction) | omega) [i64_in, u8_in, vgd_t, vgd_f, wgd_t, wgd_f]
                    refine wcall_fn rfl (by simp) (LeTs.refl _) (law43_read_S x false gx.took) ?_
                    simp (maxSteps := 5000000) (disch := first | (intro _; intros; contradiction) | omega) [i64_in, u8_in, vgd_t, vgd_f, wgd_t, wgd_f]
                    refine wcall_fn rfl (by simp) (LeTs.refl _) (ref43_ReadIn_S x false gx.took) ?_
                    simp (maxSteps := 5000000) (disch := first | (intro _; intros; contradiction) | omega) [i64_in, u8_in, vgd_t, vgd_f, wgd_t, wgd_f]
                    refine wcall_fn rfl (by simp) (LeTs.refl _) (law43_same_S ⟨x.read false, false, false && x.has, if false && x.has then x.word 0 else 0⟩ ⟨x.read false, false, false && x.has, if false && x.has then x.word 0 else 0⟩ (rl false) (rl false)) ?_
                    simp (maxSteps := 5000000) (disch := first | (intro _; intros; contradiction) | omega) [i64_in, u8_in, vgd_t, vgd_f, wgd_t, wgd_f]
                    refine wcall_fn rfl (by simp) (LeTs.refl _) (fifo_Room_S x gx.took) ?_
                    simp (maxSteps := 5000000) (disch := first | (intro _; intros; contradiction) | omega) [i64_in, u8_in, vgd_t, vgd_f, wgd_t, wgd_f]
                    refine wcall_fn rfl (by simp) (LeTs.refl _) (ref43_Room_S x gx.took) ?_
                    simp (maxSteps := 5000000) (disch := first | (intro _; intros; contradiction) | omega) [i64_in, u8_in, vgd_t, vgd_f, wgd_t, wgd_f]
                    refine wcall_fn rfl (by simp) (LeTs.refl _) (fifo_Has_S x) ?_
                    simp (maxSteps := 5000000) (disch := first | (intro _; intros; contradiction) | omega) [i64_in, u8_in, vgd_t, vgd_f, wgd_t, wgd_f]
                    refine wcall_fn rfl (by simp) (LeTs.refl _) (ref43_Has_S x) ?_
                    simp (maxSteps := 5000000) (disch := first | (intro _; intros; contradiction) | omega) [i64_in, u8_in, vgd_t, vgd_f, wgd_t, wgd_f]
                    refine wcall_fn rfl (by simp) (LeTs.refl _) (fifo_Words_S x gx.took) ?_
                    simp (maxSteps := 5000000) (disch := first | (intro _; intros; contradiction) | omega) [i64_in, u8_in, vgd_t, vgd_f, wgd_t, wgd_f]
                    refine wcall_fn rfl (by simp) (LeTs.refl _) (ref43_Words_S x gx.took) ?_
                    simp (maxSteps := 5000000) (disch := first | (intro _; intros; contradiction) | omega) [i64_in, u8_in, vgd_t, vgd_f, wgd_t, wgd_f]
                    refine wcall_fn rfl (by simp) (LeTs.refl _) (ref01_Ints_S x.words x.words wdl wdl) ?_
                    simp (maxSteps := 5000000) (disch := first | (intro _; intros; contradiction) | omega) [i64_in, u8_in, vgd_t, vgd_f, wgd_t, wgd_f]
                    (refine ⟨by kernel_rfl, hk29 _ ?_⟩; clear hk29)
                    refine awp_cond rfl rfl (fun hc7 => ?_) (fun hc7 => ?_)
                    · simp at hc7
                    · refine awp_skip ?_
                      exact h22 _ (weak_mk (by simp) (by simp) (by simp))
                · refine awp_cond rfl rfl (fun hc6 => ?_) (fun hc6 => ?_)
                  · refine awp_exit ?_
                    exact h22 _ (weak_mk (by simp) (by simp) (by simp))
                  · simp [gx] at hc6
            · refine awp_exit ?_
              simp at hc4 ⊢
              (refine hk18 _ ?_; clear hk18)
              refine awp_seq' fun k31 hk31 => awp_region (et := Try.et) Try.vtOK Try.etOK ?_
              simp (maxSteps := 5000000) (disch := first | (intro _; intros; contradiction) | omega) [i64_in, u8_in, vgd_t, vgd_f, wgd_t, wgd_f]
              (refine hk31 _ ?_; clear hk31)
              refine awp_ret ⟨.inr rfl, ?_⟩
              simp
        simp (maxSteps := 5000000) (disch := first | (intro _; intros; contradiction) | omega) [i64_in, u8_in, vgd_t, vgd_f, wgd_t, wgd_f]
        by_cases hz : 1 ≤ z.cap ∧ z.cap ≤ 8
        · refine vcall_fn rfl (by simp) (LeTs.refl _) (law43_created_S z.cap hz) ?_
          simp (maxSteps := 5000000) (disch := first | (intro _; intros; contradiction) | omega) [i64_in, u8_in, vgd_t, vgd_f, wgd_t, wgd_f]
          exact h13 (Fi.new z.cap) 0 _ (by simp [Fi.new]; omega) (ref43_NewIn_S z.cap hz) (weak_mk (by simp) (by simp) (by simp))
        · refine vcall_fn rfl (by simp) (LeTs.refl _) (law43_created_E z.cap hz) ?_
          simp (maxSteps := 5000000) (disch := first | (intro _; intros; contradiction) | omega) [i64_in, u8_in, vgd_t, vgd_f, wgd_t, wgd_f]
          exact h13 Fi.none 1 _ (by simp) (ref43_NewIn_E z.cap hz) (weak_mk (by simp) (by simp) (by simp))
    simp (maxSteps := 5000000) (disch := first | (intro _; intros; contradiction) | omega) [i64_in, u8_in, vgd_t, vgd_f, wgd_t, wgd_f]
    refine ⟨fun g1 => h7 _ (decide (20 < (z.ws.length : Int))) (fun h => ?_) (weak_mk (by simp) (by simp) (by simp)), fun g1 => h7 _ true (fun h => by cases h) (weak_mk (by simp) (by simp) (by simp))⟩
    simp at h
    omega
end Go.Proofs

namespace Go.Proofs.Ytiajgnpobcidmaa.lawFifoMatchesReference
open Go.V
set_option maxRecDepth 100000
set_option linter.unusedVariables false
theorem spec (dss : List (List D)) (h : FitsLL [[.int .u8], [.slice [.int .u8]], [.int .i64, .slice [.int .i64], .int .i64, .int .i64, .int .i64, .int .i64, .int .i64, .int .i64]] dss) : FSpec Try.prog 3 (tsOf Try.vt [5, 22, 26] dss) [] (tB true) [] := by
  match dss, h with
  | [[c], [l], [z0, z1, z2, z3, z4, z5, z6, z7]], h =>
    simp only [FitsLL, FitsL, and_true] at h
    obtain ⟨hc, hl, h0, h1, h2, h3, h4, h5, h6, h7⟩ := h
    cases hc with
    | @int _ c wc =>
      cases hl with
      | @slice _ n f hn hl h =>
        obtain ⟨l, rfl, hl1, hl2⟩ := fits_bytes (.slice hn hl h)
        simp [Lit.wf, IntKind.min, IntKind.max, IntKind.signed, IntKind.bits] at wc
        cases h1 with
        | @slice _ n1 f1 hn1 hl1' h1' =>
          obtain ⟨l1, rfl, hl3⟩ := fits_ints (.slice hn1 hl1' h1')
          cases h0 with
          | @int _ z0 _ => cases h2 with
            | @int _ z2 _ => cases h3 with
              | @int _ z3 _ => cases h4 with
                | @int _ z4 _ => cases h5 with
                  | @int _ z5 _ => cases h6 with
                    | @int _ z6 _ => cases h7 with
                      | @int _ z7 _ =>
                        refine FSpec.le (law43_FifoMatchesReference_S c l ⟨z0, l1, z2, z3, z4, z5, z6, z7⟩ (by omega) hl1) ?_
                        simp [tsOf, tOf]
                        exact ⟨hl2, hl3⟩

theorem own : ownKnob Try.prog.godebug = none := by kernel_rfl
theorem laidOut : laidOutB Try.prog = true := by kernel_rfl
theorem lifted (os : Os) (started : os.Started) (H : Type) (enc : TypeId × Value → H) :
    ReturnsInHanded {} Try.checked os 3 .any (Rows.fifoMatchesReferenceSpec.pre6 enc Try.prog Try.f3 Rows.fifoMatchesReferenceRow.domain false) (Rows.fifoMatchesReferenceSpec.post enc Try.prog Try.f3 false true false false) := by
  refine returnsInHanded_of_change (C := Try.checked) own started (by kernel_rfl) Try.func3
    (ChangeSpec.witness6 (enc := enc) (C := Try.checked) false ⟨#[], #[.int .u8 0, .slice none 0 0, .agg #[.int .i64 0, .slice none 0 0, .int .i64 0, .int .i64 0, .int .i64 0, .int .i64 0, .int .i64 0, .int .i64 0]], []⟩ 8 (by kernel_rfl) (by kernel_rfl) (by kernel_rfl) (by kernel_rfl)) ?_
  intro W base args ds gs before hval hW _ _
  refine law_contract (m := 9) Try.vtOK laidOut (ts := [5, 22, 26]) (by kernel_rfl) ?_ (tb := 4) (by kernel_rfl) Try.underlying4 rfl ?_ (shss := _) rfl spec W base args ds gs before hval hW
  · exact List.forall_mem_cons.2 ⟨⟨by kernel_rfl, of_decide_eq_true (by kernel_rfl)⟩, List.forall_mem_cons.2 ⟨⟨by kernel_rfl, of_decide_eq_true (by kernel_rfl)⟩, List.forall_mem_cons.2 ⟨⟨by kernel_rfl, of_decide_eq_true (by kernel_rfl)⟩, fun t ht => by cases ht⟩⟩⟩
  · intro ds h
    match ds, h with
    | [a, b, c], _ => rfl

theorem over : Rows.fifoMatchesReferenceRow.holds Try.pinned (OpenSpec.ofChange Rows.fifoMatchesReferenceSpec) :=
  OpenClaim.holds_of_wide 3 Try.f3 rfl rfl rfl rfl rfl rfl rfl ⟨rfl, rfl, rfl, rfl, rfl⟩ rfl rfl rfl rfl rfl (by kernel_rfl) Try.func3 (by kernel_rfl)
    (of_decide_eq_true (by kernel_rfl)) (by unfold Func.isWrapper; first | (rw [if_pos (by decide +kernel)]; kernel_rfl) | (rw [if_neg (by decide +kernel)]; exact ⟨rfl, rfl⟩))
    (fun os started H enc _ => lifted os started H enc)

theorem proved : Rows.FifoMatchesReferenceSaid := over
end Go.Proofs.Ytiajgnpobcidmaa.lawFifoMatchesReference
