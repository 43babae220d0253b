/- NQ4: the plain laws of evaluated nets: made nets are valid; gates; cones; complements. -/
import Derived.Test.YtiajgnpobcidmaaVa
import Derived.Test.YtiajgnpobcidmaaVb
import Derived.Test.YtiajgnpobcidmaaVc
import Derived.Test.YtiajgnpobcidmaaVd
import Derived.Test.YtiajgnpobcidmaaT
import Derived.Test.YtiajgnpobcidmaaN1
set_option linter.unusedSimpArgs false
set_option linter.unusedVariables false
namespace Go.Proofs
open Go.V IntWalk
set_option maxRecDepth 100000
set_option linter.unusedSimpArgs false
set_option linter.unusedVariables false

@[simp] theorem LeF0 (f g : Nat → List D) : LeF 0 f g := LeD.ext fun j hj => by omega
def arI (op : Int) : Int := if op = 1 then 1 else if op = 2 ∨ op = 3 ∨ op = 4 then 2 else if op = 5 ∨ op = 6 ∨ op = 7 then 3 else -1
theorem ref21_Arity_S (op : Int) : FSpec Try.prog 80 [tI .i64 op] [] (tI .i64 (arI op)) [] := by
  by_cases h : op = 1 ∨ op = 2 ∨ op = 3 ∨ op = 4 ∨ op = 5 ∨ op = 6 ∨ op = 7
  · rcases h with rfl | rfl | rfl | rfl | rfl | rfl | rfl
    all_goals
      refine fspec_intro Try.func80 (by kernel_rfl) rfl Try.vtOK rfl Try.ntmps80 (by simp) ?_
      repeat' (first | ((first | refine awp_seq' fun k hk => awp_region (et := Try.et) Try.vtOK Try.etOK ?_ | refine awp_region (et := Try.et) Try.vtOK Try.etOK ?_); simp (maxSteps := 5000000) (disch := first | (intro _; intros; contradiction) | omega) [i64_in, u8_in, u64_in, vgd_t, vgd_f, wgd_t, wgd_f, i64_quo, u8_quo, Int.tmod_eq_emod_of_nonneg, arI]; (repeat (refine ⟨(by first | omega | assumption), ?_⟩)); skip; (first | (refine hk _ ?_; clear hk; (try clear k)) | (clear hk; (try clear k); refine hk _ ?_; clear hk; (try clear k)) | (clear hk; (try clear k); clear hk; (try clear k); refine hk _ ?_; clear hk; (try clear k)) | (clear hk; (try clear k); clear hk; (try clear k); clear hk; (try clear k); refine hk _ ?_; clear hk; (try clear k)))) | ((first | refine awp_seq' fun k hk => awp_region_draw (et := Try.et) Try.mixed Try.vtOK Try.etOK ?_ | refine awp_region_draw (et := Try.et) Try.mixed Try.vtOK Try.etOK ?_); simp (maxSteps := 5000000) (disch := first | (intro _; intros; contradiction) | omega) [i64_in, u8_in, u64_in, vgd_t, vgd_f, wgd_t, wgd_f, i64_quo, u8_quo, Int.tmod_eq_emod_of_nonneg, arI]; (repeat (refine ⟨(by first | omega | assumption), ?_⟩)); skip; refine ⟨by kernel_rfl, ?_⟩; (first | (refine hk _ ?_; clear hk; (try clear k)) | (clear hk; (try clear k); refine hk _ ?_; clear hk; (try clear k)) | (clear hk; (try clear k); clear hk; (try clear k); refine hk _ ?_; clear hk; (try clear k)) | (clear hk; (try clear k); clear hk; (try clear k); clear hk; (try clear k); refine hk _ ?_; clear hk; (try clear k)))) | (refine awp_cond rfl rfl (fun hc => ?_) (fun hc => ?_) <;> first | (exfalso; simp at hc; done) | (simp at hc) | skip) | (refine awp_skip ?_; (first | (refine hk _ ?_; clear hk; (try clear k)) | (clear hk; (try clear k); refine hk _ ?_; clear hk; (try clear k)) | (clear hk; (try clear k); clear hk; (try clear k); refine hk _ ?_; clear hk; (try clear k)) | (clear hk; (try clear k); clear hk; (try clear k); clear hk; (try clear k); refine hk _ ?_; clear hk; (try clear k)))) | (refine awp_ret ⟨.inr rfl, ?_⟩; (try simp [arI])) | (refine awp_seq' fun k hk => ?_) | (refine awp_block ?_))
  · have e : arI op = -1 := by unfold arI; repeat (rw [if_neg (by omega)])
    have h1 : (op == 1) = false := by simp; omega
    have h2 : (op == 2) = false := by simp; omega
    have h3 : (op == 3) = false := by simp; omega
    have h4 : (op == 4) = false := by simp; omega
    have h5 : (op == 5) = false := by simp; omega
    have h6 : (op == 6) = false := by simp; omega
    have h7 : (op == 7) = false := by simp; omega
    refine fspec_intro Try.func80 (by kernel_rfl) rfl Try.vtOK rfl Try.ntmps80 (by simp) ?_
    repeat' (first | ((first | refine awp_seq' fun k hk => awp_region (et := Try.et) Try.vtOK Try.etOK ?_ | refine awp_region (et := Try.et) Try.vtOK Try.etOK ?_); simp (maxSteps := 5000000) (disch := first | (intro _; intros; contradiction) | omega) [i64_in, u8_in, u64_in, vgd_t, vgd_f, wgd_t, wgd_f, i64_quo, u8_quo, Int.tmod_eq_emod_of_nonneg, h1, h2, h3, h4, h5, h6, h7, e]; (repeat (refine ⟨(by first | omega | assumption), ?_⟩)); skip; (first | (refine hk _ ?_; clear hk; (try clear k)) | (clear hk; (try clear k); refine hk _ ?_; clear hk; (try clear k)) | (clear hk; (try clear k); clear hk; (try clear k); refine hk _ ?_; clear hk; (try clear k)) | (clear hk; (try clear k); clear hk; (try clear k); clear hk; (try clear k); refine hk _ ?_; clear hk; (try clear k)))) | ((first | refine awp_seq' fun k hk => awp_region_draw (et := Try.et) Try.mixed Try.vtOK Try.etOK ?_ | refine awp_region_draw (et := Try.et) Try.mixed Try.vtOK Try.etOK ?_); simp (maxSteps := 5000000) (disch := first | (intro _; intros; contradiction) | omega) [i64_in, u8_in, u64_in, vgd_t, vgd_f, wgd_t, wgd_f, i64_quo, u8_quo, Int.tmod_eq_emod_of_nonneg, h1, h2, h3, h4, h5, h6, h7, e]; (repeat (refine ⟨(by first | omega | assumption), ?_⟩)); skip; refine ⟨by kernel_rfl, ?_⟩; (first | (refine hk _ ?_; clear hk; (try clear k)) | (clear hk; (try clear k); refine hk _ ?_; clear hk; (try clear k)) | (clear hk; (try clear k); clear hk; (try clear k); refine hk _ ?_; clear hk; (try clear k)) | (clear hk; (try clear k); clear hk; (try clear k); clear hk; (try clear k); refine hk _ ?_; clear hk; (try clear k)))) | (refine awp_cond rfl rfl (fun hc => ?_) (fun hc => ?_) <;> first | (exfalso; simp at hc; done) | (simp at hc) | skip) | (refine awp_skip ?_; (first | (refine hk _ ?_; clear hk; (try clear k)) | (clear hk; (try clear k); refine hk _ ?_; clear hk; (try clear k)) | (clear hk; (try clear k); clear hk; (try clear k); refine hk _ ?_; clear hk; (try clear k)) | (clear hk; (try clear k); clear hk; (try clear k); clear hk; (try clear k); refine hk _ ?_; clear hk; (try clear k)))) | (refine awp_ret ⟨.inr rfl, ?_⟩; (try simp [h1, h2, h3, h4, h5, h6, h7, e])) | (refine awp_seq' fun k hk => ?_) | (refine awp_block ?_))

theorem ref22_Inverted_S (xs : List Bool) (kk : Nat) (hk : kk < xs.length) (hx : xs.length < 1000000) : FSpec Try.prog 51 [.c (.d (dB xs)), tI .i64 kk] [] (.c (.d (dB (xs.set kk (!xs[kk]?.getD false))))) [] := by
  have hkk := hk
  clear hk
  refine fspec_intro Try.func51 (by kernel_rfl) rfl Try.vtOK rfl Try.ntmps51 (by simp) ?_
  repeat' (first | ((first | refine awp_seq' fun k hk => awp_region (et := Try.et) Try.vtOK Try.etOK ?_ | refine awp_region (et := Try.et) Try.vtOK Try.etOK ?_); simp (maxSteps := 5000000) (disch := first | (intro _; intros; contradiction) | omega) [i64_in, u8_in, u64_in, vgd_t, vgd_f, wgd_t, wgd_f, i64_quo, u8_quo, Int.tmod_eq_emod_of_nonneg]; (repeat (refine ⟨(by first | omega | assumption), ?_⟩)); skip; (first | (refine hk _ ?_; clear hk; (try clear k)) | (clear hk; (try clear k); refine hk _ ?_; clear hk; (try clear k)) | (clear hk; (try clear k); clear hk; (try clear k); refine hk _ ?_; clear hk; (try clear k)) | (clear hk; (try clear k); clear hk; (try clear k); clear hk; (try clear k); refine hk _ ?_; clear hk; (try clear k)))) | ((first | refine awp_seq' fun k hk => awp_region_draw (et := Try.et) Try.mixed Try.vtOK Try.etOK ?_ | refine awp_region_draw (et := Try.et) Try.mixed Try.vtOK Try.etOK ?_); simp (maxSteps := 5000000) (disch := first | (intro _; intros; contradiction) | omega) [i64_in, u8_in, u64_in, vgd_t, vgd_f, wgd_t, wgd_f, i64_quo, u8_quo, Int.tmod_eq_emod_of_nonneg]; (repeat (refine ⟨(by first | omega | assumption), ?_⟩)); skip; refine ⟨by kernel_rfl, ?_⟩; (first | (refine hk _ ?_; clear hk; (try clear k)) | (clear hk; (try clear k); refine hk _ ?_; clear hk; (try clear k)) | (clear hk; (try clear k); clear hk; (try clear k); refine hk _ ?_; clear hk; (try clear k)) | (clear hk; (try clear k); clear hk; (try clear k); clear hk; (try clear k); refine hk _ ?_; clear hk; (try clear k)))) | (refine awp_cond rfl rfl (fun hc => ?_) (fun hc => ?_) <;> first | (exfalso; simp at hc; done) | (simp at hc) | skip) | (refine awp_skip ?_; (first | (refine hk _ ?_; clear hk; (try clear k)) | (clear hk; (try clear k); refine hk _ ?_; clear hk; (try clear k)) | (clear hk; (try clear k); clear hk; (try clear k); refine hk _ ?_; clear hk; (try clear k)) | (clear hk; (try clear k); clear hk; (try clear k); clear hk; (try clear k); refine hk _ ?_; clear hk; (try clear k)))) | (refine awp_ret ⟨.inr rfl, ?_⟩; (try simp [])) | (refine awp_seq' fun k hk => ?_) | (refine awp_block ?_))
  rw [show xs.length = (xs.set kk (!xs[kk]?.getD false)).length by simp]
  refine LeD.ext fun j hj => ?_
  by_cases e : j = kk
  · subst e; simp [hkk]
  · have e2 : kk ≠ j := fun h => e h.symm
    simp [e, List.getElem?_set, e2]

/-- What bytes say. -/
def boolsI (l : List Int) (i : Nat) : List Bool := (List.range i).map fun j => decide (j < l.length) && (l[j]?.getD 0 % 2 == 1)
theorem boolsI_succ (l : List Int) (i : Nat) : boolsI l (i + 1) = boolsI l i ++ [decide (i < l.length) && (l[i]?.getD 0 % 2 == 1)] := by simp [boolsI, List.range_succ]
theorem boolsI_len (l : List Int) (i : Nat) : (boolsI l i).length = i := by simp [boolsI]
theorem ref22_Bools_S (n : Nat) (l : List Int) (hn : n < 1000000) (hl : l.length < 9223372036854775808) (h8 : ∀ b ∈ l, 0 ≤ b ∧ b < 256) : FSpec Try.prog 36 [tI .i64 n, .c (.d (dU l))] [] (.c (.d (dB (boolsI l n)))) [] := by
  refine fspec_intro Try.func36 (by kernel_rfl) rfl Try.vtOK rfl Try.ntmps36 (by simp) ?_
  repeat' (first | ((first | refine awp_seq' fun k hk => awp_region (et := Try.et) Try.vtOK Try.etOK ?_ | refine awp_region (et := Try.et) Try.vtOK Try.etOK ?_); simp (maxSteps := 5000000) (disch := first | (intro _; intros; contradiction) | omega) [i64_in, u8_in, u64_in, vgd_t, vgd_f, wgd_t, wgd_f, i64_quo, u8_quo, Int.tmod_eq_emod_of_nonneg]; (repeat (refine ⟨(by first | omega | assumption), ?_⟩)); skip; (first | (refine hk _ ?_; clear hk; (try clear k)) | (clear hk; (try clear k); refine hk _ ?_; clear hk; (try clear k)) | (clear hk; (try clear k); clear hk; (try clear k); refine hk _ ?_; clear hk; (try clear k)) | (clear hk; (try clear k); clear hk; (try clear k); clear hk; (try clear k); refine hk _ ?_; clear hk; (try clear k)))) | ((first | refine awp_seq' fun k hk => awp_region_draw (et := Try.et) Try.mixed Try.vtOK Try.etOK ?_ | refine awp_region_draw (et := Try.et) Try.mixed Try.vtOK Try.etOK ?_); simp (maxSteps := 5000000) (disch := first | (intro _; intros; contradiction) | omega) [i64_in, u8_in, u64_in, vgd_t, vgd_f, wgd_t, wgd_f, i64_quo, u8_quo, Int.tmod_eq_emod_of_nonneg]; (repeat (refine ⟨(by first | omega | assumption), ?_⟩)); skip; refine ⟨by kernel_rfl, ?_⟩; (first | (refine hk _ ?_; clear hk; (try clear k)) | (clear hk; (try clear k); refine hk _ ?_; clear hk; (try clear k)) | (clear hk; (try clear k); clear hk; (try clear k); refine hk _ ?_; clear hk; (try clear k)) | (clear hk; (try clear k); clear hk; (try clear k); clear hk; (try clear k); refine hk _ ?_; clear hk; (try clear k)))) | (refine awp_cond rfl rfl (fun hc => ?_) (fun hc => ?_) <;> first | (exfalso; simp at hc; done) | (simp at hc) | skip) | (refine awp_skip ?_; (first | (refine hk _ ?_; clear hk; (try clear k)) | (clear hk; (try clear k); refine hk _ ?_; clear hk; (try clear k)) | (clear hk; (try clear k); clear hk; (try clear k); refine hk _ ?_; clear hk; (try clear k)) | (clear hk; (try clear k); clear hk; (try clear k); clear hk; (try clear k); refine hk _ ?_; clear hk; (try clear k)))) | (refine awp_ret ⟨.inr rfl, ?_⟩; (try simp [])) | (refine awp_seq' fun k hk => ?_) | (refine awp_block ?_))
  refine awp_for (fun q s => ∃ i : Nat, q = n - i ∧ i ≤ n ∧ s = ⟨[(6, tI .i64 i), (5, .c (.row 112 i)), (0, tI .i64 n), (1, .c (.d (dU l)))], [(112, .row false 4 1 i (bF (boolsI l i)))]⟩) (n) (weak_mk (by simp) (by simp <;> first | exact lit rfl | exact .refl _ | exact .nil _) (by simp)) ⟨0, by simp, by simp, rfl⟩ ?_
  rintro q s ⟨i, rfl, hii, rfl⟩ kl hkl
  repeat' (first | ((first | refine awp_seq' fun k hk => awp_region (et := Try.et) Try.vtOK Try.etOK ?_ | refine awp_region (et := Try.et) Try.vtOK Try.etOK ?_); simp (maxSteps := 5000000) (disch := first | (intro _; intros; contradiction) | omega) [i64_in, u8_in, u64_in, vgd_t, vgd_f, wgd_t, wgd_f, i64_quo, u8_quo, Int.tmod_eq_emod_of_nonneg]; (repeat (refine ⟨(by first | omega | assumption), ?_⟩)); skip; (first | (refine hk _ ?_; clear hk; (try clear k)) | (clear hk; (try clear k); refine hk _ ?_; clear hk; (try clear k)) | (clear hk; (try clear k); clear hk; (try clear k); refine hk _ ?_; clear hk; (try clear k)) | (clear hk; (try clear k); clear hk; (try clear k); clear hk; (try clear k); refine hk _ ?_; clear hk; (try clear k)))) | ((first | refine awp_seq' fun k hk => awp_region_draw (et := Try.et) Try.mixed Try.vtOK Try.etOK ?_ | refine awp_region_draw (et := Try.et) Try.mixed Try.vtOK Try.etOK ?_); simp (maxSteps := 5000000) (disch := first | (intro _; intros; contradiction) | omega) [i64_in, u8_in, u64_in, vgd_t, vgd_f, wgd_t, wgd_f, i64_quo, u8_quo, Int.tmod_eq_emod_of_nonneg]; (repeat (refine ⟨(by first | omega | assumption), ?_⟩)); skip; refine ⟨by kernel_rfl, ?_⟩; (first | (refine hk _ ?_; clear hk; (try clear k)) | (clear hk; (try clear k); refine hk _ ?_; clear hk; (try clear k)) | (clear hk; (try clear k); clear hk; (try clear k); refine hk _ ?_; clear hk; (try clear k)) | (clear hk; (try clear k); clear hk; (try clear k); clear hk; (try clear k); refine hk _ ?_; clear hk; (try clear k)))) | (refine awp_cond rfl rfl (fun hc => ?_) (fun hc => ?_) <;> first | (exfalso; simp at hc; done) | (simp at hc) | skip) | (refine awp_skip ?_; (first | (refine hk _ ?_; clear hk; (try clear k)) | (clear hk; (try clear k); refine hk _ ?_; clear hk; (try clear k)) | (clear hk; (try clear k); clear hk; (try clear k); refine hk _ ?_; clear hk; (try clear k)) | (clear hk; (try clear k); clear hk; (try clear k); clear hk; (try clear k); refine hk _ ?_; clear hk; (try clear k)))) | (refine awp_ret ⟨.inr rfl, ?_⟩; (try simp [])) | (refine awp_seq' fun k hk => ?_) | (refine awp_block ?_))
  · have hl8 : i < l.length → 0 ≤ l[i]?.getD 0 ∧ l[i]?.getD 0 < 256 := fun h => by simpa [h] using h8 _ (List.getElem_mem h)
    refine awp_region (et := Try.et) Try.vtOK Try.etOK ?_
    simp (maxSteps := 5000000) (disch := first | (intro _; intros; contradiction) | omega) [i64_in, u8_in, u64_in, vgd_t, vgd_f, wgd_t, wgd_f, i64_quo, u8_quo, Int.tmod_eq_emod_of_nonneg]
    have e := boolsI_succ l i
    have e1 := boolsI_len l i
    refine ⟨fun h => ?_, fun h => ?_⟩
    · have := hl8 (by omega)
      generalize l[i]?.getD 0 = b at *
      simp (maxSteps := 5000000) (disch := first | (intro _; intros; contradiction) | omega) [i64_in, u8_in, u64_in, vgd_t, vgd_f, wgd_t, wgd_f, i64_quo, u8_quo, Int.tmod_eq_emod_of_nonneg]
      repeat refine ⟨by omega, ?_⟩
      (first | (refine hk _ ?_; clear hk; (try clear k)) | (clear hk; (try clear k); refine hk _ ?_; clear hk; (try clear k)) | (clear hk; (try clear k); clear hk; (try clear k); refine hk _ ?_; clear hk; (try clear k)) | (clear hk; (try clear k); clear hk; (try clear k); clear hk; (try clear k); refine hk _ ?_; clear hk; (try clear k)))
      refine awp_region (et := Try.et) Try.vtOK Try.etOK ?_
      simp (maxSteps := 5000000) (disch := first | (intro _; intros; contradiction) | omega) [i64_in, u8_in, vgd_t, vgd_f, wgd_t, wgd_f]
      refine hkl _ _ _ (by omega) ⟨i + 1, rfl, by omega, rfl⟩ (weak_mk (by simp) ?_ (by simp)); (try simp)
      rw [e]
      simp [h]
      exact appBF _ _ _ e1.symm
    · repeat refine ⟨by omega, ?_⟩
      (first | (refine hk _ ?_; clear hk; (try clear k)) | (clear hk; (try clear k); refine hk _ ?_; clear hk; (try clear k)) | (clear hk; (try clear k); clear hk; (try clear k); refine hk _ ?_; clear hk; (try clear k)) | (clear hk; (try clear k); clear hk; (try clear k); clear hk; (try clear k); refine hk _ ?_; clear hk; (try clear k)))
      refine awp_region (et := Try.et) Try.vtOK Try.etOK ?_
      simp (maxSteps := 5000000) (disch := first | (intro _; intros; contradiction) | omega) [i64_in, u8_in, vgd_t, vgd_f, wgd_t, wgd_f]
      refine hkl _ _ _ (by omega) ⟨i + 1, rfl, by omega, rfl⟩ (weak_mk (by simp) ?_ (by simp)); (try simp)
      rw [e]
      have : ¬ i < l.length := by omega
      simp [this]
      exact appBF _ _ _ e1.symm
  · refine awp_exit ?_; simp at hc ⊢; clear hkl; obtain rfl : i = n := (by omega); (first | (refine hk _ ?_; clear hk; (try clear k)) | (clear hk; (try clear k); refine hk _ ?_; clear hk; (try clear k)) | (clear hk; (try clear k); clear hk; (try clear k); refine hk _ ?_; clear hk; (try clear k)) | (clear hk; (try clear k); clear hk; (try clear k); clear hk; (try clear k); refine hk _ ?_; clear hk; (try clear k)))
    repeat' (first | ((first | refine awp_seq' fun k hk => awp_region (et := Try.et) Try.vtOK Try.etOK ?_ | refine awp_region (et := Try.et) Try.vtOK Try.etOK ?_); simp (maxSteps := 5000000) (disch := first | (intro _; intros; contradiction) | omega) [i64_in, u8_in, u64_in, vgd_t, vgd_f, wgd_t, wgd_f, i64_quo, u8_quo, Int.tmod_eq_emod_of_nonneg]; (repeat (refine ⟨(by first | omega | assumption), ?_⟩)); skip; (first | (refine hk _ ?_; clear hk; (try clear k)) | (clear hk; (try clear k); refine hk _ ?_; clear hk; (try clear k)) | (clear hk; (try clear k); clear hk; (try clear k); refine hk _ ?_; clear hk; (try clear k)) | (clear hk; (try clear k); clear hk; (try clear k); clear hk; (try clear k); refine hk _ ?_; clear hk; (try clear k)))) | ((first | refine awp_seq' fun k hk => awp_region_draw (et := Try.et) Try.mixed Try.vtOK Try.etOK ?_ | refine awp_region_draw (et := Try.et) Try.mixed Try.vtOK Try.etOK ?_); simp (maxSteps := 5000000) (disch := first | (intro _; intros; contradiction) | omega) [i64_in, u8_in, u64_in, vgd_t, vgd_f, wgd_t, wgd_f, i64_quo, u8_quo, Int.tmod_eq_emod_of_nonneg]; (repeat (refine ⟨(by first | omega | assumption), ?_⟩)); skip; refine ⟨by kernel_rfl, ?_⟩; (first | (refine hk _ ?_; clear hk; (try clear k)) | (clear hk; (try clear k); refine hk _ ?_; clear hk; (try clear k)) | (clear hk; (try clear k); clear hk; (try clear k); refine hk _ ?_; clear hk; (try clear k)) | (clear hk; (try clear k); clear hk; (try clear k); clear hk; (try clear k); refine hk _ ?_; clear hk; (try clear k)))) | (refine awp_cond rfl rfl (fun hc => ?_) (fun hc => ?_) <;> first | (exfalso; simp at hc; done) | (simp at hc) | skip) | (refine awp_skip ?_; (first | (refine hk _ ?_; clear hk; (try clear k)) | (clear hk; (try clear k); refine hk _ ?_; clear hk; (try clear k)) | (clear hk; (try clear k); clear hk; (try clear k); refine hk _ ?_; clear hk; (try clear k)) | (clear hk; (try clear k); clear hk; (try clear k); clear hk; (try clear k); refine hk _ ?_; clear hk; (try clear k)))) | (refine awp_ret ⟨.inr rfl, ?_⟩; (try simp [])) | (refine awp_seq' fun k hk => ?_) | (refine awp_block ?_))
    have e1 := boolsI_len l i
    simp [dB, e1]

end Go.Proofs

namespace Go.Proofs
open Go.V IntWalk
set_option maxRecDepth 100000
set_option maxHeartbeats 8000000
set_option linter.unusedSimpArgs false
set_option linter.unusedVariables false

theorem ref22_Made_S (x : R22) (ok : x.ok) (h1 : x.ins.length < 9223372036854775808) (h2 : x.gates.length < 9223372036854775808) (h3 : x.outs.length < 9223372036854775808) : FSpec Try.prog 35 [.agg x.c_] [] (.agg (madeN x).c_) [] := by
  refine fspec_intro Try.func35 (by kernel_rfl) rfl Try.vtOK rfl Try.ntmps35 (by simp) ?_
  repeat' (first | ((first | refine awp_seq' fun k hk => awp_region (et := Try.et) Try.vtOK Try.etOK ?_ | refine awp_region (et := Try.et) Try.vtOK Try.etOK ?_); simp (maxSteps := 5000000) (disch := first | (intro _; intros; contradiction) | omega) [i64_in, u8_in, u64_in, vgd_t, vgd_f, wgd_t, wgd_f, i64_quo, u8_quo, Int.tmod_eq_emod_of_nonneg]; (repeat (refine ⟨(by first | omega | assumption), ?_⟩)); skip; (first | (refine hk _ ?_; clear hk; (try clear k)) | (clear hk; (try clear k); refine hk _ ?_; clear hk; (try clear k)) | (clear hk; (try clear k); clear hk; (try clear k); refine hk _ ?_; clear hk; (try clear k)) | (clear hk; (try clear k); clear hk; (try clear k); clear hk; (try clear k); refine hk _ ?_; clear hk; (try clear k)))) | ((first | refine awp_seq' fun k hk => awp_region_draw (et := Try.et) Try.mixed Try.vtOK Try.etOK ?_ | refine awp_region_draw (et := Try.et) Try.mixed Try.vtOK Try.etOK ?_); simp (maxSteps := 5000000) (disch := first | (intro _; intros; contradiction) | omega) [i64_in, u8_in, u64_in, vgd_t, vgd_f, wgd_t, wgd_f, i64_quo, u8_quo, Int.tmod_eq_emod_of_nonneg]; (repeat (refine ⟨(by first | omega | assumption), ?_⟩)); skip; refine ⟨by kernel_rfl, ?_⟩; (first | (refine hk _ ?_; clear hk; (try clear k)) | (clear hk; (try clear k); refine hk _ ?_; clear hk; (try clear k)) | (clear hk; (try clear k); clear hk; (try clear k); refine hk _ ?_; clear hk; (try clear k)) | (clear hk; (try clear k); clear hk; (try clear k); clear hk; (try clear k); refine hk _ ?_; clear hk; (try clear k)))) | (refine awp_cond rfl rfl (fun hc => ?_) (fun hc => ?_) <;> first | (exfalso; simp at hc; done) | (simp at hc) | skip) | (refine awp_skip ?_; (first | (refine hk _ ?_; clear hk; (try clear k)) | (clear hk; (try clear k); refine hk _ ?_; clear hk; (try clear k)) | (clear hk; (try clear k); clear hk; (try clear k); refine hk _ ?_; clear hk; (try clear k)) | (clear hk; (try clear k); clear hk; (try clear k); clear hk; (try clear k); refine hk _ ?_; clear hk; (try clear k)))) | (refine awp_ret ⟨.inr rfl, ?_⟩; (try simp [])) | (refine awp_seq' fun k hk => ?_) | (refine awp_block ?_))
  obtain ⟨B, hB⟩ : ∃ B, B = min x.ins.length 8 := ⟨_, rfl⟩
  refine awp_for (fun q s => ∃ i : Nat, q = B - i ∧ i ≤ B ∧ s = ⟨[(4, tI .i64 i), (3, .c (.ptr 48 0)), (2, .c (.ptr 32 0)), (1, .c (.ptr 16 0))], [(224, .row false 127 3 (i + 1) (rF Wi.c_ (⟨1, 0, 0⟩ :: (x.ins.take i).map mkW))), (48, .box false [.row 224 (i + 1), .d (.s (.slice none 0 0)), .d (.s (.slice none 0 0)), .d (.s (.slice none 0 0))]), (16, .box false x.c_), (32, .box false [.d (.s (.slice none 0 0)), .d (.s (.slice none 0 0)), .d (.s (.slice none 0 0)), .d (.s (.slice none 0 0))])]⟩) (B) (weak_mk (by simp) (by simp <;> first | exact lit rfl | exact .refl _ | exact .nil _) (by simp)) ⟨0, by simp, by simp, rfl⟩ ?_
  rintro q s ⟨i, rfl, hii, rfl⟩ kl hkl
  by_cases hiB : i < B
  · have e1 : (i : Int) < x.ins.length := by omega
    have e2 : (i : Int) < 8 := by omega
    have hi' : i < x.ins.length := by omega
    obtain ⟨b, eb⟩ : ∃ b, x.ins[i] = b := ⟨_, rfl⟩
    obtain ⟨hb1, hb2⟩ : u8 b := eb ▸ ok.ins _ (List.getElem_mem hi')
    have e3 : (x.ins.map mkW).take (i + 1) = (x.ins.map mkW).take i ++ [mkW b] := by rw [take_snoc _ _ (by simpa using hi')]; simp [hi', eb]
    have e4 : ((x.ins.map mkW).take i).length = i := by simp; omega
    rcases (by omega : b % 4 = 0 ∨ b % 4 = 1 ∨ b % 4 = 2 ∨ b % 4 = 3) with hq | hq | hq | hq
    all_goals
      repeat' (first | ((first | refine awp_seq' fun k hk => awp_region (et := Try.et) Try.vtOK Try.etOK ?_ | refine awp_region (et := Try.et) Try.vtOK Try.etOK ?_); simp (maxSteps := 5000000) (disch := first | (intro _; intros; contradiction) | omega) [i64_in, u8_in, u64_in, vgd_t, vgd_f, wgd_t, wgd_f, i64_quo, u8_quo, Int.tmod_eq_emod_of_nonneg, e1, e2, eb, hq]; (repeat (refine ⟨(by first | omega | assumption), ?_⟩)); skip; (first | (refine hk _ ?_; clear hk; (try clear k)) | (clear hk; (try clear k); refine hk _ ?_; clear hk; (try clear k)) | (clear hk; (try clear k); clear hk; (try clear k); refine hk _ ?_; clear hk; (try clear k)) | (clear hk; (try clear k); clear hk; (try clear k); clear hk; (try clear k); refine hk _ ?_; clear hk; (try clear k)))) | ((first | refine awp_seq' fun k hk => awp_region_draw (et := Try.et) Try.mixed Try.vtOK Try.etOK ?_ | refine awp_region_draw (et := Try.et) Try.mixed Try.vtOK Try.etOK ?_); simp (maxSteps := 5000000) (disch := first | (intro _; intros; contradiction) | omega) [i64_in, u8_in, u64_in, vgd_t, vgd_f, wgd_t, wgd_f, i64_quo, u8_quo, Int.tmod_eq_emod_of_nonneg, e1, e2, eb, hq]; (repeat (refine ⟨(by first | omega | assumption), ?_⟩)); skip; refine ⟨by kernel_rfl, ?_⟩; (first | (refine hk _ ?_; clear hk; (try clear k)) | (clear hk; (try clear k); refine hk _ ?_; clear hk; (try clear k)) | (clear hk; (try clear k); clear hk; (try clear k); refine hk _ ?_; clear hk; (try clear k)) | (clear hk; (try clear k); clear hk; (try clear k); clear hk; (try clear k); refine hk _ ?_; clear hk; (try clear k)))) | (refine awp_cond rfl rfl (fun hc => ?_) (fun hc => ?_) <;> first | (exfalso; simp at hc; done) | (simp at hc) | skip) | (refine awp_skip ?_; (first | (refine hk _ ?_; clear hk; (try clear k)) | (clear hk; (try clear k); refine hk _ ?_; clear hk; (try clear k)) | (clear hk; (try clear k); clear hk; (try clear k); refine hk _ ?_; clear hk; (try clear k)) | (clear hk; (try clear k); clear hk; (try clear k); clear hk; (try clear k); refine hk _ ?_; clear hk; (try clear k)))) | (refine awp_ret ⟨.inr rfl, ?_⟩; (try simp [e1, e2, eb, hq])) | (refine awp_seq' fun k hk => ?_) | (refine awp_block ?_))
      any_goals
        refine awp_region (et := Try.et) Try.vtOK Try.etOK ?_
        simp (maxSteps := 5000000) (disch := first | (intro _; intros; contradiction) | omega) [i64_in, u8_in, vgd_t, vgd_f, wgd_t, wgd_f]
        refine hkl _ _ _ (by omega) ⟨i + 1, rfl, by omega, rfl⟩ (weak_mk (by simp) ?_ (by simp)); (try simp)
    all_goals exact app_rF' (mkW b) (by rw [List.length_cons, e4]) (by rw [e3]; rfl) (by simp [mkW, hq])
  · have hEx : i = B := by omega
    subst hEx
    have hil : i ≤ 8 := by omega
    have he : (x.ins.map mkW).take i = (x.ins.take 8).map mkW := by rw [List.map_take, List.take_eq_take_iff]; simp only [List.length_map]; omega
    obtain ⟨I, hI⟩ : ∃ I, I = mkI x := ⟨_, rfl⟩
    have hI2 : I = ⟨1, 0, 0⟩ :: (x.ins.map mkW).take i := by simp only [hI, mkI, he]
    have hmi : I.length = i + 1 := by rw [hI2]; simp; omega
    have hk3 : ∀ s : St, Weak s ⟨[(3, .c (.ptr 48 0)), (2, .c (.ptr 32 0)), (1, .c (.ptr 16 0))], [(224, .row false 127 3 I.length (rF Wi.c_ I)), (48, .box false [.row 224 I.length, .d (.s (.slice none 0 0)), .d (.s (.slice none 0 0)), .d (.s (.slice none 0 0))]), (16, .box false x.c_), (32, .box false [.d (.s (.slice none 0 0)), .d (.s (.slice none 0 0)), .d (.s (.slice none 0 0)), .d (.s (.slice none 0 0))])]⟩ → k s := by
      intro s hw
      refine hk s (awp_weak hw ?_)
      have hmx : I.length ≤ 9 := by omega
      clear hk hw hB he hI2 hil hmi hii hiB hkl
      clear i kl k s
      repeat' (first | ((first | refine awp_seq' fun k hk => awp_region (et := Try.et) Try.vtOK Try.etOK ?_ | refine awp_region (et := Try.et) Try.vtOK Try.etOK ?_); simp (maxSteps := 5000000) (disch := first | (intro _; intros; contradiction) | omega) [i64_in, u8_in, u64_in, vgd_t, vgd_f, wgd_t, wgd_f, i64_quo, u8_quo, Int.tmod_eq_emod_of_nonneg]; (repeat (refine ⟨(by first | omega | assumption), ?_⟩)); skip; (first | (refine hk _ ?_; clear hk; (try clear k)) | (clear hk; (try clear k); refine hk _ ?_; clear hk; (try clear k)) | (clear hk; (try clear k); clear hk; (try clear k); refine hk _ ?_; clear hk; (try clear k)) | (clear hk; (try clear k); clear hk; (try clear k); clear hk; (try clear k); refine hk _ ?_; clear hk; (try clear k)))) | ((first | refine awp_seq' fun k hk => awp_region_draw (et := Try.et) Try.mixed Try.vtOK Try.etOK ?_ | refine awp_region_draw (et := Try.et) Try.mixed Try.vtOK Try.etOK ?_); simp (maxSteps := 5000000) (disch := first | (intro _; intros; contradiction) | omega) [i64_in, u8_in, u64_in, vgd_t, vgd_f, wgd_t, wgd_f, i64_quo, u8_quo, Int.tmod_eq_emod_of_nonneg]; (repeat (refine ⟨(by first | omega | assumption), ?_⟩)); skip; refine ⟨by kernel_rfl, ?_⟩; (first | (refine hk _ ?_; clear hk; (try clear k)) | (clear hk; (try clear k); refine hk _ ?_; clear hk; (try clear k)) | (clear hk; (try clear k); clear hk; (try clear k); refine hk _ ?_; clear hk; (try clear k)) | (clear hk; (try clear k); clear hk; (try clear k); clear hk; (try clear k); refine hk _ ?_; clear hk; (try clear k)))) | (refine awp_cond rfl rfl (fun hc => ?_) (fun hc => ?_) <;> first | (exfalso; simp at hc; done) | (simp at hc) | skip) | (refine awp_skip ?_; (first | (refine hk _ ?_; clear hk; (try clear k)) | (clear hk; (try clear k); refine hk _ ?_; clear hk; (try clear k)) | (clear hk; (try clear k); clear hk; (try clear k); refine hk _ ?_; clear hk; (try clear k)) | (clear hk; (try clear k); clear hk; (try clear k); clear hk; (try clear k); refine hk _ ?_; clear hk; (try clear k)))) | (refine awp_ret ⟨.inr rfl, ?_⟩; (try simp [])) | (refine awp_seq' fun k hk => ?_) | (refine awp_block ?_))
      obtain ⟨B, hB⟩ : ∃ B, B = min x.gates.length 60 := ⟨_, rfl⟩
      refine awp_weak (weak_nilB (cs := [.row 224 I.length, .d (.s (.slice none 0 0)), .d (.s (.slice none 0 0)), .d (.s (.slice none 0 0))]) (b := 48) (i := 1) (n := 3001) (ty := 99) (sz := 5) (rF Ga.c_ []) (by simp) (by simp) (by simp)) ?_
      refine awp_for (fun q s => ∃ i : Nat, q = B - i ∧ i ≤ B ∧ s = ⟨[(6, tI .i64 i), (3, .c (.ptr 48 0)), (2, .c (.ptr 32 0)), (1, .c (.ptr 16 0))], [(3001, .row false 99 5 i (rF Ga.c_ (mkGs I.length x.gates i))), (224, .row false 127 3 I.length (rF Wi.c_ I)), (48, .box false [.row 224 I.length, .row 3001 i, .d (.s (.slice none 0 0)), .d (.s (.slice none 0 0))]), (16, .box false x.c_), (32, .box false [.d (.s (.slice none 0 0)), .d (.s (.slice none 0 0)), .d (.s (.slice none 0 0)), .d (.s (.slice none 0 0))])]⟩) (B) (weak_mk (by simp) (by simp <;> first | exact lit rfl | exact .refl _ | exact .nil _) (by simp)) ⟨0, by simp, by simp, rfl⟩ ?_
      rintro q s ⟨i, rfl, hii, rfl⟩ kl hkl
      by_cases hiB : i < B
      · have e1 : (i : Int) < x.gates.length := by omega
        have e2 : (i : Int) < 60 := by omega
        have hi' : i < x.gates.length := by omega
        obtain ⟨b, eb⟩ : ∃ b, x.gates[i] = b := ⟨_, rfl⟩
        obtain ⟨⟨b1, b2⟩, ⟨b3, b4⟩, ⟨b5, b6⟩, ⟨b7, b8⟩, ⟨b9, b10⟩⟩ := eb ▸ ok.gates _ (List.getElem_mem hi')
        have e3 : mkGs I.length x.gates (i + 1) = mkGs I.length x.gates i ++ [mkG (2 + I.length + i) b] := by simp [mkGs, hi', eb]
        have e4 : (mkGs I.length x.gates i).length = i := by
          have : ∀ i, (mkGs I.length x.gates i).length = i := fun i => by induction i with | zero => rfl | succ i ih => simp [mkGs, ih]
          exact this i
        obtain ⟨op, hop⟩ : ∃ op, b.o % 7 = op := ⟨_, rfl⟩
        rcases (by omega : op = 0 ∨ op = 1 ∨ op = 2 ∨ op = 3 ∨ op = 4 ∨ op = 5 ∨ op = 6) with hq | hq | hq | hq | hq | hq | hq
        all_goals
          rw [hq] at hop
          repeat' (first | ((first | refine awp_seq' fun k hk => awp_region (et := Try.et) Try.vtOK Try.etOK ?_ | refine awp_region (et := Try.et) Try.vtOK Try.etOK ?_); simp (maxSteps := 5000000) (disch := first | (intro _; intros; contradiction) | omega) [i64_in, u8_in, u64_in, vgd_t, vgd_f, wgd_t, wgd_f, i64_quo, u8_quo, Int.tmod_eq_emod_of_nonneg, e1, e2, eb, hop]; (repeat (refine ⟨(by first | omega | assumption), ?_⟩)); skip; (first | (refine hk _ ?_; clear hk; (try clear k)) | (clear hk; (try clear k); refine hk _ ?_; clear hk; (try clear k)) | (clear hk; (try clear k); clear hk; (try clear k); refine hk _ ?_; clear hk; (try clear k)) | (clear hk; (try clear k); clear hk; (try clear k); clear hk; (try clear k); refine hk _ ?_; clear hk; (try clear k)))) | ((first | refine awp_seq' fun k hk => awp_region_draw (et := Try.et) Try.mixed Try.vtOK Try.etOK ?_ | refine awp_region_draw (et := Try.et) Try.mixed Try.vtOK Try.etOK ?_); simp (maxSteps := 5000000) (disch := first | (intro _; intros; contradiction) | omega) [i64_in, u8_in, u64_in, vgd_t, vgd_f, wgd_t, wgd_f, i64_quo, u8_quo, Int.tmod_eq_emod_of_nonneg, e1, e2, eb, hop]; (repeat (refine ⟨(by first | omega | assumption), ?_⟩)); skip; refine ⟨by kernel_rfl, ?_⟩; (first | (refine hk _ ?_; clear hk; (try clear k)) | (clear hk; (try clear k); refine hk _ ?_; clear hk; (try clear k)) | (clear hk; (try clear k); clear hk; (try clear k); refine hk _ ?_; clear hk; (try clear k)) | (clear hk; (try clear k); clear hk; (try clear k); clear hk; (try clear k); refine hk _ ?_; clear hk; (try clear k)))) | (refine awp_cond rfl rfl (fun hc => ?_) (fun hc => ?_) <;> first | (exfalso; simp at hc; done) | (simp at hc) | skip) | (refine awp_skip ?_; (first | (refine hk _ ?_; clear hk; (try clear k)) | (clear hk; (try clear k); refine hk _ ?_; clear hk; (try clear k)) | (clear hk; (try clear k); clear hk; (try clear k); refine hk _ ?_; clear hk; (try clear k)) | (clear hk; (try clear k); clear hk; (try clear k); clear hk; (try clear k); refine hk _ ?_; clear hk; (try clear k)))) | (refine awp_ret ⟨.inr rfl, ?_⟩; (try simp [e1, e2, eb, hop])) | (refine awp_seq' fun k hk => ?_) | (refine awp_block ?_))
          all_goals
            refine awp_region (et := Try.et) Try.vtOK Try.etOK ?_
            simp (maxSteps := 5000000) (disch := first | (intro _; intros; contradiction) | omega) [i64_in, u8_in, vgd_t, vgd_f, wgd_t, wgd_f]
            refine hkl _ _ _ (by omega) ⟨i + 1, rfl, by omega, rfl⟩ (weak_mk (by simp) ?_ (by simp)); (try simp)
        all_goals exact app_rF' (mkG (2 + I.length + i) b) e4.symm e3 (by simp [mkG, hop])
      · have hEx : i = B := by omega
        subst hEx
        have hil : i ≤ 60 := by omega
        obtain ⟨G, hG⟩ : ∃ G, G = mkGs I.length x.gates i := ⟨_, rfl⟩
        have hGl : G.length = i := by
          have : ∀ i, (mkGs I.length x.gates i).length = i := fun i => by induction i with | zero => rfl | succ i ih => simp [mkGs, ih]
          rw [hG]; exact this i
        have hG2 : G = mkGs I.length x.gates (min x.gates.length 60) := by rw [hG, hB]
        have hk4 : ∀ s : St, Weak s ⟨[(3, .c (.ptr 48 0)), (2, .c (.ptr 32 0)), (1, .c (.ptr 16 0))], [(3001, .row false 99 5 G.length (rF Ga.c_ G)), (224, .row false 127 3 I.length (rF Wi.c_ I)), (48, .box false [.row 224 I.length, .row 3001 G.length, .d (.s (.slice none 0 0)), .d (.s (.slice none 0 0))]), (16, .box false x.c_), (32, .box false [.d (.s (.slice none 0 0)), .d (.s (.slice none 0 0)), .d (.s (.slice none 0 0)), .d (.s (.slice none 0 0))])]⟩ → k s := by
          intro s hw
          refine hk s (awp_weak hw ?_)
          have hmg : G.length ≤ 60 := by omega
          clear hk hw hB hG hil hGl hii hiB hkl
          clear i kl k s
          repeat' (first | ((first | refine awp_seq' fun k hk => awp_region (et := Try.et) Try.vtOK Try.etOK ?_ | refine awp_region (et := Try.et) Try.vtOK Try.etOK ?_); simp (maxSteps := 5000000) (disch := first | (intro _; intros; contradiction) | omega) [i64_in, u8_in, u64_in, vgd_t, vgd_f, wgd_t, wgd_f, i64_quo, u8_quo, Int.tmod_eq_emod_of_nonneg]; (repeat (refine ⟨(by first | omega | assumption), ?_⟩)); skip; (first | (refine hk _ ?_; clear hk; (try clear k)) | (clear hk; (try clear k); refine hk _ ?_; clear hk; (try clear k)) | (clear hk; (try clear k); clear hk; (try clear k); refine hk _ ?_; clear hk; (try clear k)) | (clear hk; (try clear k); clear hk; (try clear k); clear hk; (try clear k); refine hk _ ?_; clear hk; (try clear k)))) | ((first | refine awp_seq' fun k hk => awp_region_draw (et := Try.et) Try.mixed Try.vtOK Try.etOK ?_ | refine awp_region_draw (et := Try.et) Try.mixed Try.vtOK Try.etOK ?_); simp (maxSteps := 5000000) (disch := first | (intro _; intros; contradiction) | omega) [i64_in, u8_in, u64_in, vgd_t, vgd_f, wgd_t, wgd_f, i64_quo, u8_quo, Int.tmod_eq_emod_of_nonneg]; (repeat (refine ⟨(by first | omega | assumption), ?_⟩)); skip; refine ⟨by kernel_rfl, ?_⟩; (first | (refine hk _ ?_; clear hk; (try clear k)) | (clear hk; (try clear k); refine hk _ ?_; clear hk; (try clear k)) | (clear hk; (try clear k); clear hk; (try clear k); refine hk _ ?_; clear hk; (try clear k)) | (clear hk; (try clear k); clear hk; (try clear k); clear hk; (try clear k); refine hk _ ?_; clear hk; (try clear k)))) | (refine awp_cond rfl rfl (fun hc => ?_) (fun hc => ?_) <;> first | (exfalso; simp at hc; done) | (simp at hc) | skip) | (refine awp_skip ?_; (first | (refine hk _ ?_; clear hk; (try clear k)) | (clear hk; (try clear k); refine hk _ ?_; clear hk; (try clear k)) | (clear hk; (try clear k); clear hk; (try clear k); refine hk _ ?_; clear hk; (try clear k)) | (clear hk; (try clear k); clear hk; (try clear k); clear hk; (try clear k); refine hk _ ?_; clear hk; (try clear k)))) | (refine awp_ret ⟨.inr rfl, ?_⟩; (try simp [])) | (refine awp_seq' fun k hk => ?_) | (refine awp_block ?_))
          obtain ⟨B, hB⟩ : ∃ B, B = min x.outs.length 9 := ⟨_, rfl⟩
          refine awp_weak (weak_nilB (cs := [.row 224 I.length, .row 3001 G.length, .d (.s (.slice none 0 0)), .d (.s (.slice none 0 0))]) (b := 48) (i := 2) (n := 3002) (ty := 127) (sz := 3) (rF Wi.c_ []) (by simp) (by simp) (by simp)) ?_
          refine awp_weak (weak_nilB (cs := [.row 224 I.length, .row 3001 G.length, .row 3002 0, .d (.s (.slice none 0 0))]) (b := 48) (i := 3) (n := 3003) (ty := 3) (sz := 1) (fun j => [.s (.int .i64 (([] : List Int)[j]?.getD 0))]) (by simp) (by simp) (by simp)) ?_
          refine awp_for (fun q s => ∃ i : Nat, q = B - i ∧ i ≤ B ∧ s = ⟨[(10, tI .i64 i), (3, .c (.ptr 48 0)), (2, .c (.ptr 32 0)), (1, .c (.ptr 16 0))], [(3003, .row false 3 1 i (fun j => [.s (.int .i64 (((x.outs.map (mkD ((I.length : Int) + G.length))).take i)[j]?.getD 0))])), (3002, .row false 127 3 i (rF Wi.c_ ((x.outs.map mkO).take i))), (3001, .row false 99 5 G.length (rF Ga.c_ G)), (224, .row false 127 3 I.length (rF Wi.c_ I)), (48, .box false [.row 224 I.length, .row 3001 G.length, .row 3002 i, .row 3003 i]), (16, .box false x.c_), (32, .box false [.d (.s (.slice none 0 0)), .d (.s (.slice none 0 0)), .d (.s (.slice none 0 0)), .d (.s (.slice none 0 0))])]⟩) (B) (weak_mk (by simp) (by simp <;> first | exact lit rfl | exact .refl _ | exact .nil _) (by simp)) ⟨0, by simp, by simp, rfl⟩ ?_
          rintro q s ⟨i, rfl, hii, rfl⟩ kl hkl
          by_cases hiB : i < B
          · have e1 : (i : Int) < x.outs.length := by omega
            have e2 : (i : Int) < 9 := by omega
            have hi' : i < x.outs.length := by omega
            obtain ⟨b, eb⟩ : ∃ b, x.outs[i] = b := ⟨_, rfl⟩
            obtain ⟨⟨b1, b2⟩, ⟨b3, b4⟩, ⟨b5, b6⟩, ⟨b7, b8⟩⟩ := eb ▸ ok.outs _ (List.getElem_mem hi')
            have e3 : (x.outs.map mkO).take (i + 1) = (x.outs.map mkO).take i ++ [mkO b] := by rw [take_snoc _ _ (by simpa using hi')]; simp [hi', eb]
            have e4 : ((x.outs.map mkO).take i).length = i := by simp; omega
            have e5 : (x.outs.map (mkD ((I.length : Int) + G.length))).take (i + 1) = (x.outs.map (mkD ((I.length : Int) + G.length))).take i ++ [mkD ((I.length : Int) + G.length) b] := by rw [take_snoc _ _ (by simpa using hi')]; simp [hi', eb]
            have e6 : ((x.outs.map (mkD ((I.length : Int) + G.length))).take i).length = i := by simp; omega
            obtain ⟨op, hop⟩ : ∃ op, b.k % 7 = op := ⟨_, rfl⟩
            rcases (by omega : op = 0 ∨ op = 1 ∨ op = 2 ∨ op = 3 ∨ op = 4 ∨ op = 5 ∨ op = 6) with hq | hq | hq | hq | hq | hq | hq
            all_goals
              rw [hq] at hop
              repeat' (first | ((first | refine awp_seq' fun k hk => awp_region (et := Try.et) Try.vtOK Try.etOK ?_ | refine awp_region (et := Try.et) Try.vtOK Try.etOK ?_); simp (maxSteps := 5000000) (disch := first | (intro _; intros; contradiction) | omega) [i64_in, u8_in, u64_in, vgd_t, vgd_f, wgd_t, wgd_f, i64_quo, u8_quo, Int.tmod_eq_emod_of_nonneg, e1, e2, eb, hop, andV_1023]; (repeat (refine ⟨(by first | omega | assumption), ?_⟩)); skip; (first | (refine hk _ ?_; clear hk; (try clear k)) | (clear hk; (try clear k); refine hk _ ?_; clear hk; (try clear k)) | (clear hk; (try clear k); clear hk; (try clear k); refine hk _ ?_; clear hk; (try clear k)) | (clear hk; (try clear k); clear hk; (try clear k); clear hk; (try clear k); refine hk _ ?_; clear hk; (try clear k)))) | ((first | refine awp_seq' fun k hk => awp_region_draw (et := Try.et) Try.mixed Try.vtOK Try.etOK ?_ | refine awp_region_draw (et := Try.et) Try.mixed Try.vtOK Try.etOK ?_); simp (maxSteps := 5000000) (disch := first | (intro _; intros; contradiction) | omega) [i64_in, u8_in, u64_in, vgd_t, vgd_f, wgd_t, wgd_f, i64_quo, u8_quo, Int.tmod_eq_emod_of_nonneg, e1, e2, eb, hop, andV_1023]; (repeat (refine ⟨(by first | omega | assumption), ?_⟩)); skip; refine ⟨by kernel_rfl, ?_⟩; (first | (refine hk _ ?_; clear hk; (try clear k)) | (clear hk; (try clear k); refine hk _ ?_; clear hk; (try clear k)) | (clear hk; (try clear k); clear hk; (try clear k); refine hk _ ?_; clear hk; (try clear k)) | (clear hk; (try clear k); clear hk; (try clear k); clear hk; (try clear k); refine hk _ ?_; clear hk; (try clear k)))) | (refine awp_cond rfl rfl (fun hc => ?_) (fun hc => ?_) <;> first | (exfalso; simp at hc; done) | (simp at hc) | skip) | (refine awp_skip ?_; (first | (refine hk _ ?_; clear hk; (try clear k)) | (clear hk; (try clear k); refine hk _ ?_; clear hk; (try clear k)) | (clear hk; (try clear k); clear hk; (try clear k); refine hk _ ?_; clear hk; (try clear k)) | (clear hk; (try clear k); clear hk; (try clear k); clear hk; (try clear k); refine hk _ ?_; clear hk; (try clear k)))) | (refine awp_ret ⟨.inr rfl, ?_⟩; (try simp [e1, e2, eb, hop, andV_1023])) | (refine awp_seq' fun k hk => ?_) | (refine awp_block ?_))
            all_goals
              refine awp_region (et := Try.et) Try.vtOK Try.etOK ?_
              simp (maxSteps := 5000000) (disch := first | (intro _; intros; contradiction) | omega) [i64_in, u8_in, vgd_t, vgd_f, wgd_t, wgd_f]
              refine hkl _ _ _ (by omega) ⟨i + 1, rfl, by omega, rfl⟩ (weak_mk (by simp) ?_ (by simp)); (try simp)
            all_goals
              refine ⟨?_, app_rF' (mkO b) e4.symm e3 (by simp [mkO, hop, kindO])⟩
              rw [e5]
              have := appWF ((x.outs.map (mkD ((I.length : Int) + G.length))).take i) (mkD ((I.length : Int) + G.length) b)
              rw [e6] at this
              have hz : mkD ((I.length : Int) + G.length) b = (1 + I.length + G.length - b.d) % 1024 % (2 + I.length + G.length) := by unfold mkD; rw [← Int.add_assoc, ← Int.add_assoc]
              rw [hz] at this ⊢
              exact this
          · have hEx : i = B := by omega
            subst hEx
            have hil : i ≤ 9 := by omega
            obtain ⟨O, hO⟩ : ∃ O, O = (x.outs.map mkO).take i := ⟨_, rfl⟩
            obtain ⟨D, hD⟩ : ∃ D, D = (x.outs.map (mkD ((I.length : Int) + G.length))).take i := ⟨_, rfl⟩
            have hOl : O.length = i := by rw [hO]; simp; omega
            have hDl : D.length = i := by rw [hD]; simp; omega
            have hO2 : O = (x.outs.take 9).map mkO := by rw [hO, List.map_take, List.take_eq_take_iff]; simp only [List.length_map]; omega
            have hD2 : D = (x.outs.take 9).map (mkD ((I.length : Int) + G.length)) := by rw [hD, List.map_take, List.take_eq_take_iff]; simp only [List.length_map]; omega
            have hk5 : ∀ s : St, Weak s ⟨[(3, .c (.ptr 48 0)), (2, .c (.ptr 32 0)), (1, .c (.ptr 16 0))], [(3003, .row false 3 1 i (fun j => [.s (.int .i64 (D[j]?.getD 0))])), (3002, .row false 127 3 i (rF Wi.c_ O)), (3001, .row false 99 5 G.length (rF Ga.c_ G)), (224, .row false 127 3 I.length (rF Wi.c_ I)), (48, .box false [.row 224 I.length, .row 3001 G.length, .row 3002 i, .row 3003 i]), (16, .box false x.c_), (32, .box false [.d (.s (.slice none 0 0)), .d (.s (.slice none 0 0)), .d (.s (.slice none 0 0)), .d (.s (.slice none 0 0))])]⟩ → k s := by
              intro s hw
              refine hk s (awp_weak hw ?_)
              by_cases h0 : x.outs = []
              · have h0i : i = 0 := by simp [hB, h0]
                subst h0i
                have hO0 : O = [] := by simpa using hOl
                have hD0 : D = [] := by simpa using hDl
                have hm : madeN x = ⟨I, G, [⟨1, 0, 0⟩], [1 + (I.length : Int) + G.length]⟩ := by simp [madeN, h0, ← hI, ← hG2]
                repeat' (first | ((first | refine awp_seq' fun k hk => awp_region (et := Try.et) Try.vtOK Try.etOK ?_ | refine awp_region (et := Try.et) Try.vtOK Try.etOK ?_); simp (maxSteps := 5000000) (disch := first | (intro _; intros; contradiction) | omega) [i64_in, u8_in, u64_in, vgd_t, vgd_f, wgd_t, wgd_f, i64_quo, u8_quo, Int.tmod_eq_emod_of_nonneg]; (repeat (refine ⟨(by first | omega | assumption), ?_⟩)); skip; (first | (refine hk _ ?_; clear hk; (try clear k)) | (clear hk; (try clear k); refine hk _ ?_; clear hk; (try clear k)) | (clear hk; (try clear k); clear hk; (try clear k); refine hk _ ?_; clear hk; (try clear k)) | (clear hk; (try clear k); clear hk; (try clear k); clear hk; (try clear k); refine hk _ ?_; clear hk; (try clear k)))) | ((first | refine awp_seq' fun k hk => awp_region_draw (et := Try.et) Try.mixed Try.vtOK Try.etOK ?_ | refine awp_region_draw (et := Try.et) Try.mixed Try.vtOK Try.etOK ?_); simp (maxSteps := 5000000) (disch := first | (intro _; intros; contradiction) | omega) [i64_in, u8_in, u64_in, vgd_t, vgd_f, wgd_t, wgd_f, i64_quo, u8_quo, Int.tmod_eq_emod_of_nonneg]; (repeat (refine ⟨(by first | omega | assumption), ?_⟩)); skip; refine ⟨by kernel_rfl, ?_⟩; (first | (refine hk _ ?_; clear hk; (try clear k)) | (clear hk; (try clear k); refine hk _ ?_; clear hk; (try clear k)) | (clear hk; (try clear k); clear hk; (try clear k); refine hk _ ?_; clear hk; (try clear k)) | (clear hk; (try clear k); clear hk; (try clear k); clear hk; (try clear k); refine hk _ ?_; clear hk; (try clear k)))) | (refine awp_cond rfl rfl (fun hc => ?_) (fun hc => ?_) <;> first | (exfalso; simp at hc; done) | (simp at hc) | skip) | (refine awp_skip ?_; (first | (refine hk _ ?_; clear hk; (try clear k)) | (clear hk; (try clear k); refine hk _ ?_; clear hk; (try clear k)) | (clear hk; (try clear k); clear hk; (try clear k); refine hk _ ?_; clear hk; (try clear k)) | (clear hk; (try clear k); clear hk; (try clear k); clear hk; (try clear k); refine hk _ ?_; clear hk; (try clear k)))) | (refine awp_ret ⟨.inr rfl, ?_⟩; (try simp [])) | (refine awp_seq' fun k hk => ?_) | (refine awp_block ?_))
                all_goals
                  rw [hm]
                  exact ⟨.refl _, .refl _, lit rfl, lit rfl⟩
              · have h0i : 0 < i := by
                  have : 0 < x.outs.length := List.length_pos_iff.2 h0
                  omega
                have h0j : ((i : Int) == 0) = false := by simp; omega
                have hm : madeN x = ⟨I, G, O, D⟩ := by simp [madeN, h0, ← hI, ← hG2, ← hO2, ← hD2]
                repeat' (first | ((first | refine awp_seq' fun k hk => awp_region (et := Try.et) Try.vtOK Try.etOK ?_ | refine awp_region (et := Try.et) Try.vtOK Try.etOK ?_); simp (maxSteps := 5000000) (disch := first | (intro _; intros; contradiction) | omega) [i64_in, u8_in, u64_in, vgd_t, vgd_f, wgd_t, wgd_f, i64_quo, u8_quo, Int.tmod_eq_emod_of_nonneg, h0j]; (repeat (refine ⟨(by first | omega | assumption), ?_⟩)); skip; (first | (refine hk _ ?_; clear hk; (try clear k)) | (clear hk; (try clear k); refine hk _ ?_; clear hk; (try clear k)) | (clear hk; (try clear k); clear hk; (try clear k); refine hk _ ?_; clear hk; (try clear k)) | (clear hk; (try clear k); clear hk; (try clear k); clear hk; (try clear k); refine hk _ ?_; clear hk; (try clear k)))) | ((first | refine awp_seq' fun k hk => awp_region_draw (et := Try.et) Try.mixed Try.vtOK Try.etOK ?_ | refine awp_region_draw (et := Try.et) Try.mixed Try.vtOK Try.etOK ?_); simp (maxSteps := 5000000) (disch := first | (intro _; intros; contradiction) | omega) [i64_in, u8_in, u64_in, vgd_t, vgd_f, wgd_t, wgd_f, i64_quo, u8_quo, Int.tmod_eq_emod_of_nonneg, h0j]; (repeat (refine ⟨(by first | omega | assumption), ?_⟩)); skip; refine ⟨by kernel_rfl, ?_⟩; (first | (refine hk _ ?_; clear hk; (try clear k)) | (clear hk; (try clear k); refine hk _ ?_; clear hk; (try clear k)) | (clear hk; (try clear k); clear hk; (try clear k); refine hk _ ?_; clear hk; (try clear k)) | (clear hk; (try clear k); clear hk; (try clear k); clear hk; (try clear k); refine hk _ ?_; clear hk; (try clear k)))) | (refine awp_cond rfl rfl (fun hc => ?_) (fun hc => ?_) <;> first | (exfalso; simp at hc; done) | (simp at hc) | skip) | (refine awp_skip ?_; (first | (refine hk _ ?_; clear hk; (try clear k)) | (clear hk; (try clear k); refine hk _ ?_; clear hk; (try clear k)) | (clear hk; (try clear k); clear hk; (try clear k); refine hk _ ?_; clear hk; (try clear k)) | (clear hk; (try clear k); clear hk; (try clear k); clear hk; (try clear k); refine hk _ ?_; clear hk; (try clear k)))) | (refine awp_ret ⟨.inr rfl, ?_⟩; (try simp [h0j])) | (refine awp_seq' fun k hk => ?_) | (refine awp_block ?_))
                all_goals
                  rw [hm]
                  refine ⟨.refl _, .refl _, ?_, ?_⟩
                  · rw [← hOl]; exact .refl _
                  · rw [← hDl]; exact .refl _
            rcases (by omega : ¬ (i : Int) < x.outs.length ∨ ((i : Int) < x.outs.length ∧ ¬ (i : Int) < 9)) with e1 | ⟨e1, e2⟩
            · repeat' (first | ((first | refine awp_seq' fun k hk => awp_region (et := Try.et) Try.vtOK Try.etOK ?_ | refine awp_region (et := Try.et) Try.vtOK Try.etOK ?_); simp (maxSteps := 5000000) (disch := first | (intro _; intros; contradiction) | omega) [i64_in, u8_in, u64_in, vgd_t, vgd_f, wgd_t, wgd_f, i64_quo, u8_quo, Int.tmod_eq_emod_of_nonneg, e1]; (repeat (refine ⟨(by first | omega | assumption), ?_⟩)); skip; (first | (refine hk _ ?_; clear hk; (try clear k)) | (clear hk; (try clear k); refine hk _ ?_; clear hk; (try clear k)) | (clear hk; (try clear k); clear hk; (try clear k); refine hk _ ?_; clear hk; (try clear k)) | (clear hk; (try clear k); clear hk; (try clear k); clear hk; (try clear k); refine hk _ ?_; clear hk; (try clear k)))) | ((first | refine awp_seq' fun k hk => awp_region_draw (et := Try.et) Try.mixed Try.vtOK Try.etOK ?_ | refine awp_region_draw (et := Try.et) Try.mixed Try.vtOK Try.etOK ?_); simp (maxSteps := 5000000) (disch := first | (intro _; intros; contradiction) | omega) [i64_in, u8_in, u64_in, vgd_t, vgd_f, wgd_t, wgd_f, i64_quo, u8_quo, Int.tmod_eq_emod_of_nonneg, e1]; (repeat (refine ⟨(by first | omega | assumption), ?_⟩)); skip; refine ⟨by kernel_rfl, ?_⟩; (first | (refine hk _ ?_; clear hk; (try clear k)) | (clear hk; (try clear k); refine hk _ ?_; clear hk; (try clear k)) | (clear hk; (try clear k); clear hk; (try clear k); refine hk _ ?_; clear hk; (try clear k)) | (clear hk; (try clear k); clear hk; (try clear k); clear hk; (try clear k); refine hk _ ?_; clear hk; (try clear k)))) | (refine awp_cond rfl rfl (fun hc => ?_) (fun hc => ?_) <;> first | (exfalso; simp at hc; done) | (simp at hc) | skip) | (refine awp_skip ?_; (first | (refine hk _ ?_; clear hk; (try clear k)) | (clear hk; (try clear k); refine hk _ ?_; clear hk; (try clear k)) | (clear hk; (try clear k); clear hk; (try clear k); refine hk _ ?_; clear hk; (try clear k)) | (clear hk; (try clear k); clear hk; (try clear k); clear hk; (try clear k); refine hk _ ?_; clear hk; (try clear k)))) | (refine awp_ret ⟨.inr rfl, ?_⟩; (try simp [e1])) | (refine awp_seq' fun k hk => ?_) | (refine awp_block ?_))
              refine awp_exit ?_
              simp
              exact hk5 _ (weak_mk (by simp) (by simp [← hO, ← hD]) (by simp))
            · repeat' (first | ((first | refine awp_seq' fun k hk => awp_region (et := Try.et) Try.vtOK Try.etOK ?_ | refine awp_region (et := Try.et) Try.vtOK Try.etOK ?_); simp (maxSteps := 5000000) (disch := first | (intro _; intros; contradiction) | omega) [i64_in, u8_in, u64_in, vgd_t, vgd_f, wgd_t, wgd_f, i64_quo, u8_quo, Int.tmod_eq_emod_of_nonneg, e1, e2]; (repeat (refine ⟨(by first | omega | assumption), ?_⟩)); skip; (first | (refine hk _ ?_; clear hk; (try clear k)) | (clear hk; (try clear k); refine hk _ ?_; clear hk; (try clear k)) | (clear hk; (try clear k); clear hk; (try clear k); refine hk _ ?_; clear hk; (try clear k)) | (clear hk; (try clear k); clear hk; (try clear k); clear hk; (try clear k); refine hk _ ?_; clear hk; (try clear k)))) | ((first | refine awp_seq' fun k hk => awp_region_draw (et := Try.et) Try.mixed Try.vtOK Try.etOK ?_ | refine awp_region_draw (et := Try.et) Try.mixed Try.vtOK Try.etOK ?_); simp (maxSteps := 5000000) (disch := first | (intro _; intros; contradiction) | omega) [i64_in, u8_in, u64_in, vgd_t, vgd_f, wgd_t, wgd_f, i64_quo, u8_quo, Int.tmod_eq_emod_of_nonneg, e1, e2]; (repeat (refine ⟨(by first | omega | assumption), ?_⟩)); skip; refine ⟨by kernel_rfl, ?_⟩; (first | (refine hk _ ?_; clear hk; (try clear k)) | (clear hk; (try clear k); refine hk _ ?_; clear hk; (try clear k)) | (clear hk; (try clear k); clear hk; (try clear k); refine hk _ ?_; clear hk; (try clear k)) | (clear hk; (try clear k); clear hk; (try clear k); clear hk; (try clear k); refine hk _ ?_; clear hk; (try clear k)))) | (refine awp_cond rfl rfl (fun hc => ?_) (fun hc => ?_) <;> first | (exfalso; simp at hc; done) | (simp at hc) | skip) | (refine awp_skip ?_; (first | (refine hk _ ?_; clear hk; (try clear k)) | (clear hk; (try clear k); refine hk _ ?_; clear hk; (try clear k)) | (clear hk; (try clear k); clear hk; (try clear k); refine hk _ ?_; clear hk; (try clear k)) | (clear hk; (try clear k); clear hk; (try clear k); clear hk; (try clear k); refine hk _ ?_; clear hk; (try clear k)))) | (refine awp_ret ⟨.inr rfl, ?_⟩; (try simp [e1, e2])) | (refine awp_seq' fun k hk => ?_) | (refine awp_block ?_))
              refine awp_exit ?_
              simp
              exact hk5 _ (weak_mk (by simp) (by simp [← hO, ← hD]) (by simp))
        rcases (by omega : ¬ (i : Int) < x.gates.length ∨ ((i : Int) < x.gates.length ∧ ¬ (i : Int) < 60)) with e1 | ⟨e1, e2⟩
        · repeat' (first | ((first | refine awp_seq' fun k hk => awp_region (et := Try.et) Try.vtOK Try.etOK ?_ | refine awp_region (et := Try.et) Try.vtOK Try.etOK ?_); simp (maxSteps := 5000000) (disch := first | (intro _; intros; contradiction) | omega) [i64_in, u8_in, u64_in, vgd_t, vgd_f, wgd_t, wgd_f, i64_quo, u8_quo, Int.tmod_eq_emod_of_nonneg, e1]; (repeat (refine ⟨(by first | omega | assumption), ?_⟩)); skip; (first | (refine hk _ ?_; clear hk; (try clear k)) | (clear hk; (try clear k); refine hk _ ?_; clear hk; (try clear k)) | (clear hk; (try clear k); clear hk; (try clear k); refine hk _ ?_; clear hk; (try clear k)) | (clear hk; (try clear k); clear hk; (try clear k); clear hk; (try clear k); refine hk _ ?_; clear hk; (try clear k)))) | ((first | refine awp_seq' fun k hk => awp_region_draw (et := Try.et) Try.mixed Try.vtOK Try.etOK ?_ | refine awp_region_draw (et := Try.et) Try.mixed Try.vtOK Try.etOK ?_); simp (maxSteps := 5000000) (disch := first | (intro _; intros; contradiction) | omega) [i64_in, u8_in, u64_in, vgd_t, vgd_f, wgd_t, wgd_f, i64_quo, u8_quo, Int.tmod_eq_emod_of_nonneg, e1]; (repeat (refine ⟨(by first | omega | assumption), ?_⟩)); skip; refine ⟨by kernel_rfl, ?_⟩; (first | (refine hk _ ?_; clear hk; (try clear k)) | (clear hk; (try clear k); refine hk _ ?_; clear hk; (try clear k)) | (clear hk; (try clear k); clear hk; (try clear k); refine hk _ ?_; clear hk; (try clear k)) | (clear hk; (try clear k); clear hk; (try clear k); clear hk; (try clear k); refine hk _ ?_; clear hk; (try clear k)))) | (refine awp_cond rfl rfl (fun hc => ?_) (fun hc => ?_) <;> first | (exfalso; simp at hc; done) | (simp at hc) | skip) | (refine awp_skip ?_; (first | (refine hk _ ?_; clear hk; (try clear k)) | (clear hk; (try clear k); refine hk _ ?_; clear hk; (try clear k)) | (clear hk; (try clear k); clear hk; (try clear k); refine hk _ ?_; clear hk; (try clear k)) | (clear hk; (try clear k); clear hk; (try clear k); clear hk; (try clear k); refine hk _ ?_; clear hk; (try clear k)))) | (refine awp_ret ⟨.inr rfl, ?_⟩; (try simp [e1])) | (refine awp_seq' fun k hk => ?_) | (refine awp_block ?_))
          refine awp_exit ?_
          simp
          exact hk4 _ (weak_mk (by simp [hGl]) (by simp [hGl, ← hG]) (by simp))
        · repeat' (first | ((first | refine awp_seq' fun k hk => awp_region (et := Try.et) Try.vtOK Try.etOK ?_ | refine awp_region (et := Try.et) Try.vtOK Try.etOK ?_); simp (maxSteps := 5000000) (disch := first | (intro _; intros; contradiction) | omega) [i64_in, u8_in, u64_in, vgd_t, vgd_f, wgd_t, wgd_f, i64_quo, u8_quo, Int.tmod_eq_emod_of_nonneg, e1, e2]; (repeat (refine ⟨(by first | omega | assumption), ?_⟩)); skip; (first | (refine hk _ ?_; clear hk; (try clear k)) | (clear hk; (try clear k); refine hk _ ?_; clear hk; (try clear k)) | (clear hk; (try clear k); clear hk; (try clear k); refine hk _ ?_; clear hk; (try clear k)) | (clear hk; (try clear k); clear hk; (try clear k); clear hk; (try clear k); refine hk _ ?_; clear hk; (try clear k)))) | ((first | refine awp_seq' fun k hk => awp_region_draw (et := Try.et) Try.mixed Try.vtOK Try.etOK ?_ | refine awp_region_draw (et := Try.et) Try.mixed Try.vtOK Try.etOK ?_); simp (maxSteps := 5000000) (disch := first | (intro _; intros; contradiction) | omega) [i64_in, u8_in, u64_in, vgd_t, vgd_f, wgd_t, wgd_f, i64_quo, u8_quo, Int.tmod_eq_emod_of_nonneg, e1, e2]; (repeat (refine ⟨(by first | omega | assumption), ?_⟩)); skip; refine ⟨by kernel_rfl, ?_⟩; (first | (refine hk _ ?_; clear hk; (try clear k)) | (clear hk; (try clear k); refine hk _ ?_; clear hk; (try clear k)) | (clear hk; (try clear k); clear hk; (try clear k); refine hk _ ?_; clear hk; (try clear k)) | (clear hk; (try clear k); clear hk; (try clear k); clear hk; (try clear k); refine hk _ ?_; clear hk; (try clear k)))) | (refine awp_cond rfl rfl (fun hc => ?_) (fun hc => ?_) <;> first | (exfalso; simp at hc; done) | (simp at hc) | skip) | (refine awp_skip ?_; (first | (refine hk _ ?_; clear hk; (try clear k)) | (clear hk; (try clear k); refine hk _ ?_; clear hk; (try clear k)) | (clear hk; (try clear k); clear hk; (try clear k); refine hk _ ?_; clear hk; (try clear k)) | (clear hk; (try clear k); clear hk; (try clear k); clear hk; (try clear k); refine hk _ ?_; clear hk; (try clear k)))) | (refine awp_ret ⟨.inr rfl, ?_⟩; (try simp [e1, e2])) | (refine awp_seq' fun k hk => ?_) | (refine awp_block ?_))
          refine awp_exit ?_
          simp
          exact hk4 _ (weak_mk (by simp [hGl]) (by simp [hGl, ← hG]) (by simp))
    rcases (by omega : ¬ (i : Int) < x.ins.length ∨ ((i : Int) < x.ins.length ∧ ¬ (i : Int) < 8)) with e1 | ⟨e1, e2⟩
    · repeat' (first | ((first | refine awp_seq' fun k hk => awp_region (et := Try.et) Try.vtOK Try.etOK ?_ | refine awp_region (et := Try.et) Try.vtOK Try.etOK ?_); simp (maxSteps := 5000000) (disch := first | (intro _; intros; contradiction) | omega) [i64_in, u8_in, u64_in, vgd_t, vgd_f, wgd_t, wgd_f, i64_quo, u8_quo, Int.tmod_eq_emod_of_nonneg, e1]; (repeat (refine ⟨(by first | omega | assumption), ?_⟩)); skip; (first | (refine hk _ ?_; clear hk; (try clear k)) | (clear hk; (try clear k); refine hk _ ?_; clear hk; (try clear k)) | (clear hk; (try clear k); clear hk; (try clear k); refine hk _ ?_; clear hk; (try clear k)) | (clear hk; (try clear k); clear hk; (try clear k); clear hk; (try clear k); refine hk _ ?_; clear hk; (try clear k)))) | ((first | refine awp_seq' fun k hk => awp_region_draw (et := Try.et) Try.mixed Try.vtOK Try.etOK ?_ | refine awp_region_draw (et := Try.et) Try.mixed Try.vtOK Try.etOK ?_); simp (maxSteps := 5000000) (disch := first | (intro _; intros; contradiction) | omega) [i64_in, u8_in, u64_in, vgd_t, vgd_f, wgd_t, wgd_f, i64_quo, u8_quo, Int.tmod_eq_emod_of_nonneg, e1]; (repeat (refine ⟨(by first | omega | assumption), ?_⟩)); skip; refine ⟨by kernel_rfl, ?_⟩; (first | (refine hk _ ?_; clear hk; (try clear k)) | (clear hk; (try clear k); refine hk _ ?_; clear hk; (try clear k)) | (clear hk; (try clear k); clear hk; (try clear k); refine hk _ ?_; clear hk; (try clear k)) | (clear hk; (try clear k); clear hk; (try clear k); clear hk; (try clear k); refine hk _ ?_; clear hk; (try clear k)))) | (refine awp_cond rfl rfl (fun hc => ?_) (fun hc => ?_) <;> first | (exfalso; simp at hc; done) | (simp at hc) | skip) | (refine awp_skip ?_; (first | (refine hk _ ?_; clear hk; (try clear k)) | (clear hk; (try clear k); refine hk _ ?_; clear hk; (try clear k)) | (clear hk; (try clear k); clear hk; (try clear k); refine hk _ ?_; clear hk; (try clear k)) | (clear hk; (try clear k); clear hk; (try clear k); clear hk; (try clear k); refine hk _ ?_; clear hk; (try clear k)))) | (refine awp_ret ⟨.inr rfl, ?_⟩; (try simp [e1])) | (refine awp_seq' fun k hk => ?_) | (refine awp_block ?_))
      refine awp_exit ?_
      simp
      exact hk3 _ (weak_mk (by simp [hmi]) (by simp [hmi, ← hI2]) (by simp))
    · repeat' (first | ((first | refine awp_seq' fun k hk => awp_region (et := Try.et) Try.vtOK Try.etOK ?_ | refine awp_region (et := Try.et) Try.vtOK Try.etOK ?_); simp (maxSteps := 5000000) (disch := first | (intro _; intros; contradiction) | omega) [i64_in, u8_in, u64_in, vgd_t, vgd_f, wgd_t, wgd_f, i64_quo, u8_quo, Int.tmod_eq_emod_of_nonneg, e1, e2]; (repeat (refine ⟨(by first | omega | assumption), ?_⟩)); skip; (first | (refine hk _ ?_; clear hk; (try clear k)) | (clear hk; (try clear k); refine hk _ ?_; clear hk; (try clear k)) | (clear hk; (try clear k); clear hk; (try clear k); refine hk _ ?_; clear hk; (try clear k)) | (clear hk; (try clear k); clear hk; (try clear k); clear hk; (try clear k); refine hk _ ?_; clear hk; (try clear k)))) | ((first | refine awp_seq' fun k hk => awp_region_draw (et := Try.et) Try.mixed Try.vtOK Try.etOK ?_ | refine awp_region_draw (et := Try.et) Try.mixed Try.vtOK Try.etOK ?_); simp (maxSteps := 5000000) (disch := first | (intro _; intros; contradiction) | omega) [i64_in, u8_in, u64_in, vgd_t, vgd_f, wgd_t, wgd_f, i64_quo, u8_quo, Int.tmod_eq_emod_of_nonneg, e1, e2]; (repeat (refine ⟨(by first | omega | assumption), ?_⟩)); skip; refine ⟨by kernel_rfl, ?_⟩; (first | (refine hk _ ?_; clear hk; (try clear k)) | (clear hk; (try clear k); refine hk _ ?_; clear hk; (try clear k)) | (clear hk; (try clear k); clear hk; (try clear k); refine hk _ ?_; clear hk; (try clear k)) | (clear hk; (try clear k); clear hk; (try clear k); clear hk; (try clear k); refine hk _ ?_; clear hk; (try clear k)))) | (refine awp_cond rfl rfl (fun hc => ?_) (fun hc => ?_) <;> first | (exfalso; simp at hc; done) | (simp at hc) | skip) | (refine awp_skip ?_; (first | (refine hk _ ?_; clear hk; (try clear k)) | (clear hk; (try clear k); refine hk _ ?_; clear hk; (try clear k)) | (clear hk; (try clear k); clear hk; (try clear k); refine hk _ ?_; clear hk; (try clear k)) | (clear hk; (try clear k); clear hk; (try clear k); clear hk; (try clear k); refine hk _ ?_; clear hk; (try clear k)))) | (refine awp_ret ⟨.inr rfl, ?_⟩; (try simp [e1, e2])) | (refine awp_seq' fun k hk => ?_) | (refine awp_block ?_))
      refine awp_exit ?_
      simp
      exact hk3 _ (weak_mk (by simp [hmi]) (by simp [hmi, ← hI2]) (by simp))
end Go.Proofs

/- NQ4: the plain laws of evaluated nets: made nets are valid; gates; cones; complements. -/
namespace Go.Proofs
open Go.V

theorem mkGs_len (nin : Nat) (l : List G5) : ∀ n, (mkGs nin l n).length = n
  | 0 => rfl
  | n + 1 => by simp [mkGs, mkGs_len nin l n]
theorem mkGs_at (nin : Nat) (l : List G5) : ∀ n i, i < n → (mkGs nin l n)[i]?.getD default = mkG (2 + nin + i) (l[i]?.getD default)
  | 0, i, h => by omega
  | n + 1, i, h => by
    simp only [mkGs]
    by_cases e : i < n
    · rw [List.getElem?_append_left (by rw [mkGs_len]; exact e)]
      exact mkGs_at nin l n i e
    · have : i = n := by omega
      subst this
      rw [List.getElem?_append_right (by simp [mkGs_len])]
      simp [mkGs_len]
theorem mkG_ok {own : Nat} {g : G5} (h : 0 < own) (g0 : u8 g.o) (g4 : u8 g.n) : (mkG (own : Int) g).ok own := by
  have hp : (0 : Int) < own := by omega
  have ha := Int.emod_nonneg g.a (b := own) (by omega)
  have ha2 := Int.emod_lt_of_pos g.a hp
  have hb := Int.emod_nonneg g.b (b := own) (by omega)
  have hb2 := Int.emod_lt_of_pos g.b hp
  have hc := Int.emod_nonneg g.c (b := own) (by omega)
  have hc2 := Int.emod_lt_of_pos g.c hp
  obtain ⟨o1, o2⟩ := g0
  obtain ⟨n1, n2⟩ := g4
  unfold mkG Ga.ok
  simp only
  refine ⟨by omega, by omega, ha, ha2, ?_, ?_, ?_, ?_, ?_, ?_⟩ <;> split <;> omega
theorem u8_default : u8 (default : G5).o ∧ u8 (default : G5).a ∧ u8 (default : G5).b ∧ u8 (default : G5).c ∧ u8 (default : G5).n := by
  refine ⟨⟨?_, ?_⟩, ⟨?_, ?_⟩, ⟨?_, ?_⟩, ⟨?_, ?_⟩, ⟨?_, ?_⟩⟩ <;> decide
theorem R22.ok.gate {x : R22} (ok : x.ok) (i : Nat) : u8 (x.gates[i]?.getD default).o ∧ u8 (x.gates[i]?.getD default).a ∧ u8 (x.gates[i]?.getD default).b ∧ u8 (x.gates[i]?.getD default).c ∧ u8 (x.gates[i]?.getD default).n := by
  by_cases h : i < x.gates.length
  · have := ok.gates _ (List.getElem_mem h)
    simpa [h] using this
  · rw [List.getElem?_eq_none (by omega)]
    exact u8_default
theorem madeN_ins (x : R22) : (madeN x).ins = mkI x := by unfold madeN; simp only; split <;> rfl
theorem madeN_gates (x : R22) : (madeN x).gates = mkGs (mkI x).length x.gates (min x.gates.length 60) := by unfold madeN; simp only; split <;> rfl
theorem mkI_len (x : R22) : 1 ≤ (mkI x).length ∧ (mkI x).length ≤ 9 := by simp [mkI]; omega

theorem madeN_okX (x : R22) (ok : x.ok) : (madeN x).okX (mkI x).length ∧ (madeN x).okW ∧ (madeN x).gates.length ≤ 60 := by
  have hI := mkI_len x
  have hg : (madeN x).gates.length ≤ 60 := by rw [madeN_gates, mkGs_len]; omega
  have hd : (madeN x).outs.length = (madeN x).drive.length ∧ (madeN x).outs.length ≤ 9 := by
    unfold madeN
    simp only
    split
    · simp
    · simp; omega
  refine ⟨⟨by omega, by omega, by rw [madeN_ins]; omega, by omega, fun i hi => ?_, fun i hi => ?_⟩, ⟨hd.1, fun i hi => ?_, fun i hi => ?_⟩, hg⟩
  · rw [madeN_gates] at hi ⊢
    rw [mkGs_len] at hi
    rw [mkGs_at _ _ _ _ hi]
    have := ok.gate i
    have h := mkG_ok (own := 2 + (mkI x).length + i) (g := x.gates[i]?.getD default) (by omega) this.1 this.2.2.2.2
    simpa using h
  · have e : (madeN x).gates.length = min x.gates.length 60 := by rw [madeN_gates, mkGs_len]
    generalize hgl : (madeN x).gates.length = gl at *
    have : ∀ d ∈ (madeN x).drive, 0 ≤ d ∧ d < 2 + (mkI x).length + gl := by
      intro d hd
      have e2 : (mkGs (mkI x).length x.gates (min x.gates.length 60)).length = gl := by rw [mkGs_len, e]
      unfold madeN at hd
      simp only [e2] at hd
      split at hd
      · simp at hd
        omega
      · simp only [List.mem_map] at hd
        obtain ⟨g, _, rfl⟩ := hd
        unfold mkD
        exact ⟨Int.emod_nonneg _ (by omega), by have := Int.emod_lt_of_pos ((1 + ((mkI x).length + gl : Int) - g.d) % 1024) (b := 2 + ((mkI x).length + gl : Int)) (by omega); omega⟩
    have h := this _ (List.getElem_mem hi)
    simpa [hi] using h
  · rw [madeN_ins] at hi ⊢
    have : ∀ w ∈ mkI x, 0 ≤ w.i ∧ 0 ≤ w.bit := by
      intro w hw
      simp only [mkI, List.mem_cons, List.mem_map] at hw
      rcases hw with rfl | ⟨b, hb, rfl⟩
      · simp
      · obtain ⟨b1, b2⟩ := ok.ins b (List.mem_of_mem_take hb)
        simp only [mkW]
        refine ⟨by omega, ?_⟩
        split <;> omega
    have h := this _ (List.getElem_mem hi)
    simpa [hi] using h
  · have : ∀ w ∈ (madeN x).outs, 0 ≤ w.bit ∧ w.bit < 63 := by
      intro w hw
      unfold madeN at hw
      simp only at hw
      split at hw
      · simp at hw
        subst hw
        simp
      · simp only [List.mem_map] at hw
        obtain ⟨g, _, rfl⟩ := hw
        simp only [mkO]
        omega
    have h := this _ (List.getElem_mem hi)
    simpa [hi] using h
end Go.Proofs

namespace Go.Proofs
open Go.V IntWalk
set_option maxRecDepth 100000
set_option maxHeartbeats 8000000
set_option linter.unusedSimpArgs false
set_option linter.unusedVariables false

/-- The sum of lengths, as a machine adds it. -/
def litS (n0 : Int) (ms : List (List Int)) : Nat → Int
  | 0 => n0
  | i + 1 => IntKind.i64.wrap (litS n0 ms i + ((ms[i]?.getD []).length : Int))
def lit0 (regs : List Int) (mems : List (List Int)) (heads : List (Bool × Int)) (rooms : List Bool) (v : List Int) : Int :=
  IntKind.i64.wrap (IntKind.i64.wrap (IntKind.i64.wrap (IntKind.i64.wrap (regs.length + mems.length) + heads.length) + rooms.length) + v.length)
theorem law22_little_S (regs : List Int) (mems : List (List Int)) (heads : List (Bool × Int)) (rooms : List Bool) (v : List Int) (kk e0 e1 : Int) (hr : regs.length < 9223372036854775808) (hm : mems.length < 9223372036854775808) (hh : heads.length < 9223372036854775808) (ho : rooms.length < 9223372036854775808) (hv : v.length < 9223372036854775808) (hml : ∀ m ∈ mems, m.length < 9223372036854775808) :
    FSpec Try.prog 33 [.agg [.d (dL regs), .d (dLL mems), .d (dH heads), .d (dB rooms), .d (dU v), .d (.s (.int .i64 kk)), .d (.s (.int .i8 e0)), .d (.s (.int .i8 e1))]] [] (tB (decide (litS (lit0 regs mems heads rooms v) mems mems.length ≤ 200))) [] := by
  refine fspec_intro Try.func33 (by kernel_rfl) rfl Try.vtOK rfl Try.ntmps33 (by simp) ?_
  repeat' (first | ((first | refine awp_seq' fun k hk => awp_region (et := Try.et) Try.vtOK Try.etOK ?_ | refine awp_region (et := Try.et) Try.vtOK Try.etOK ?_); simp (maxSteps := 5000000) (disch := first | (intro _; intros; contradiction) | omega) [i64_in, u8_in, u64_in, vgd_t, vgd_f, wgd_t, wgd_f, i64_quo, u8_quo, Int.tmod_eq_emod_of_nonneg]; (repeat (refine ⟨(by first | omega | assumption), ?_⟩)); skip; (first | (refine hk _ ?_; clear hk; (try clear k)) | (clear hk; (try clear k); refine hk _ ?_; clear hk; (try clear k)) | (clear hk; (try clear k); clear hk; (try clear k); refine hk _ ?_; clear hk; (try clear k)) | (clear hk; (try clear k); clear hk; (try clear k); clear hk; (try clear k); refine hk _ ?_; clear hk; (try clear k)))) | ((first | refine awp_seq' fun k hk => awp_region_draw (et := Try.et) Try.mixed Try.vtOK Try.etOK ?_ | refine awp_region_draw (et := Try.et) Try.mixed Try.vtOK Try.etOK ?_); simp (maxSteps := 5000000) (disch := first | (intro _; intros; contradiction) | omega) [i64_in, u8_in, u64_in, vgd_t, vgd_f, wgd_t, wgd_f, i64_quo, u8_quo, Int.tmod_eq_emod_of_nonneg]; (repeat (refine ⟨(by first | omega | assumption), ?_⟩)); skip; refine ⟨by kernel_rfl, ?_⟩; (first | (refine hk _ ?_; clear hk; (try clear k)) | (clear hk; (try clear k); refine hk _ ?_; clear hk; (try clear k)) | (clear hk; (try clear k); clear hk; (try clear k); refine hk _ ?_; clear hk; (try clear k)) | (clear hk; (try clear k); clear hk; (try clear k); clear hk; (try clear k); refine hk _ ?_; clear hk; (try clear k)))) | (refine awp_cond rfl rfl (fun hc => ?_) (fun hc => ?_) <;> first | (exfalso; simp at hc; done) | (simp at hc) | skip) | (refine awp_skip ?_; (first | (refine hk _ ?_; clear hk; (try clear k)) | (clear hk; (try clear k); refine hk _ ?_; clear hk; (try clear k)) | (clear hk; (try clear k); clear hk; (try clear k); refine hk _ ?_; clear hk; (try clear k)) | (clear hk; (try clear k); clear hk; (try clear k); clear hk; (try clear k); refine hk _ ?_; clear hk; (try clear k)))) | (refine awp_ret ⟨.inr rfl, ?_⟩; (try simp [])) | (refine awp_seq' fun k hk => ?_) | (refine awp_block ?_))
  rw [show IntKind.i64.wrap (IntKind.i64.wrap (IntKind.i64.wrap (IntKind.i64.wrap (regs.length + mems.length) + heads.length) + rooms.length) + v.length) = lit0 regs mems heads rooms v from rfl]
  generalize lit0 regs mems heads rooms v = n0 at *
  have h00 : litS n0 mems 0 = n0 := rfl
  refine awp_for (fun q s => ∃ i : Nat, q = mems.length - i ∧ i ≤ mems.length ∧ s = ⟨[(4, tI .i64 i), (3, tI .i64 (litS n0 mems i)), (1, .c (.ptr 16 0))], [(16, .box false [.d (dL regs), .d (dLL mems), .d (dH heads), .d (dB rooms), .d (dU v), .d (.s (.int .i64 kk)), .d (.s (.int .i8 e0)), .d (.s (.int .i8 e1))])]⟩) mems.length (weak_mk (by simp [h00]) (by simp) (by simp)) ⟨0, by simp, by simp, rfl⟩ ?_
  rintro q s ⟨i, rfl, hi, rfl⟩ kl hkl
  repeat' (first | ((first | refine awp_seq' fun k hk => awp_region (et := Try.et) Try.vtOK Try.etOK ?_ | refine awp_region (et := Try.et) Try.vtOK Try.etOK ?_); simp (maxSteps := 5000000) (disch := first | (intro _; intros; contradiction) | omega) [i64_in, u8_in, u64_in, vgd_t, vgd_f, wgd_t, wgd_f, i64_quo, u8_quo, Int.tmod_eq_emod_of_nonneg]; (repeat (refine ⟨(by first | omega | assumption), ?_⟩)); skip; (first | (refine hk _ ?_; clear hk; (try clear k)) | (clear hk; (try clear k); refine hk _ ?_; clear hk; (try clear k)) | (clear hk; (try clear k); clear hk; (try clear k); refine hk _ ?_; clear hk; (try clear k)) | (clear hk; (try clear k); clear hk; (try clear k); clear hk; (try clear k); refine hk _ ?_; clear hk; (try clear k)))) | ((first | refine awp_seq' fun k hk => awp_region_draw (et := Try.et) Try.mixed Try.vtOK Try.etOK ?_ | refine awp_region_draw (et := Try.et) Try.mixed Try.vtOK Try.etOK ?_); simp (maxSteps := 5000000) (disch := first | (intro _; intros; contradiction) | omega) [i64_in, u8_in, u64_in, vgd_t, vgd_f, wgd_t, wgd_f, i64_quo, u8_quo, Int.tmod_eq_emod_of_nonneg]; (repeat (refine ⟨(by first | omega | assumption), ?_⟩)); skip; refine ⟨by kernel_rfl, ?_⟩; (first | (refine hk _ ?_; clear hk; (try clear k)) | (clear hk; (try clear k); refine hk _ ?_; clear hk; (try clear k)) | (clear hk; (try clear k); clear hk; (try clear k); refine hk _ ?_; clear hk; (try clear k)) | (clear hk; (try clear k); clear hk; (try clear k); clear hk; (try clear k); refine hk _ ?_; clear hk; (try clear k)))) | (refine awp_cond rfl rfl (fun hc => ?_) (fun hc => ?_) <;> first | (exfalso; simp at hc; done) | (simp at hc) | skip) | (refine awp_skip ?_; (first | (refine hk _ ?_; clear hk; (try clear k)) | (clear hk; (try clear k); refine hk _ ?_; clear hk; (try clear k)) | (clear hk; (try clear k); clear hk; (try clear k); refine hk _ ?_; clear hk; (try clear k)) | (clear hk; (try clear k); clear hk; (try clear k); clear hk; (try clear k); refine hk _ ?_; clear hk; (try clear k)))) | (refine awp_ret ⟨.inr rfl, ?_⟩; (try simp [])) | (refine awp_seq' fun k hk => ?_) | (refine awp_block ?_))
  · have hs : litS n0 mems (i + 1) = IntKind.i64.wrap (litS n0 mems i + ((mems[i]?.getD []).length : Int)) := rfl
    have hmi : (mems[i]?.getD []) = mems[i] := by simp [hc]
    rw [hmi] at hs
    have hl := hml _ (List.getElem_mem hc)
    refine awp_region (et := Try.et) Try.vtOK Try.etOK ?_
    simp (maxSteps := 5000000) (disch := first | (intro _; intros; contradiction) | omega) [i64_in, u8_in, vgd_t, vgd_f, wgd_t, wgd_f]
    refine hkl _ _ _ (by omega) ⟨i + 1, rfl, by omega, rfl⟩ (weak_mk (by simp [hs]) (by simp) (by simp))
  · refine awp_exit ?_
    simp at hc ⊢
    obtain rfl : i = mems.length := by omega
    (first | (refine hk _ ?_; clear hk; (try clear k)) | (clear hk; (try clear k); refine hk _ ?_; clear hk; (try clear k)) | (clear hk; (try clear k); clear hk; (try clear k); refine hk _ ?_; clear hk; (try clear k)) | (clear hk; (try clear k); clear hk; (try clear k); clear hk; (try clear k); refine hk _ ?_; clear hk; (try clear k)))
    repeat' (first | ((first | refine awp_seq' fun k hk => awp_region (et := Try.et) Try.vtOK Try.etOK ?_ | refine awp_region (et := Try.et) Try.vtOK Try.etOK ?_); simp (maxSteps := 5000000) (disch := first | (intro _; intros; contradiction) | omega) [i64_in, u8_in, u64_in, vgd_t, vgd_f, wgd_t, wgd_f, i64_quo, u8_quo, Int.tmod_eq_emod_of_nonneg]; (repeat (refine ⟨(by first | omega | assumption), ?_⟩)); skip; (first | (refine hk _ ?_; clear hk; (try clear k)) | (clear hk; (try clear k); refine hk _ ?_; clear hk; (try clear k)) | (clear hk; (try clear k); clear hk; (try clear k); refine hk _ ?_; clear hk; (try clear k)) | (clear hk; (try clear k); clear hk; (try clear k); clear hk; (try clear k); refine hk _ ?_; clear hk; (try clear k)))) | ((first | refine awp_seq' fun k hk => awp_region_draw (et := Try.et) Try.mixed Try.vtOK Try.etOK ?_ | refine awp_region_draw (et := Try.et) Try.mixed Try.vtOK Try.etOK ?_); simp (maxSteps := 5000000) (disch := first | (intro _; intros; contradiction) | omega) [i64_in, u8_in, u64_in, vgd_t, vgd_f, wgd_t, wgd_f, i64_quo, u8_quo, Int.tmod_eq_emod_of_nonneg]; (repeat (refine ⟨(by first | omega | assumption), ?_⟩)); skip; refine ⟨by kernel_rfl, ?_⟩; (first | (refine hk _ ?_; clear hk; (try clear k)) | (clear hk; (try clear k); refine hk _ ?_; clear hk; (try clear k)) | (clear hk; (try clear k); clear hk; (try clear k); refine hk _ ?_; clear hk; (try clear k)) | (clear hk; (try clear k); clear hk; (try clear k); clear hk; (try clear k); refine hk _ ?_; clear hk; (try clear k)))) | (refine awp_cond rfl rfl (fun hc => ?_) (fun hc => ?_) <;> first | (exfalso; simp at hc; done) | (simp at hc) | skip) | (refine awp_skip ?_; (first | (refine hk _ ?_; clear hk; (try clear k)) | (clear hk; (try clear k); refine hk _ ?_; clear hk; (try clear k)) | (clear hk; (try clear k); clear hk; (try clear k); refine hk _ ?_; clear hk; (try clear k)) | (clear hk; (try clear k); clear hk; (try clear k); clear hk; (try clear k); refine hk _ ?_; clear hk; (try clear k)))) | (refine awp_ret ⟨.inr rfl, ?_⟩; (try simp [])) | (refine awp_seq' fun k hk => ?_) | (refine awp_block ?_))

theorem sh0 : shlV .i64 1 0 = 1 := by decide
theorem sh1 : shlV .i64 1 1 = 2 := by decide
theorem sh2 : shlV .i64 1 2 = 4 := by decide
@[simp] theorem num0 (a b c : Bool) : numI [a, b, c] 0 = 0 := rfl
theorem num1 (a b c : Bool) : numI [a, b, c] 1 = if a then 1 else 0 := by cases a <;> cases b <;> cases c <;> decide
theorem num2 (a b c : Bool) : numI [a, b, c] 2 = (if a then 1 else 0) + if b then 2 else 0 := by cases a <;> cases b <;> cases c <;> decide
theorem num3 (a b c : Bool) : numI [a, b, c] 3 = (if a then 1 else 0) + (if b then 2 else 0) + if c then 4 else 0 := by cases a <;> cases b <;> cases c <;> decide
/-- The value of a gate as the law says it. -/
theorem law22_operator_S (g : Ga) (v : List Bool) (ms : List (List Int)) (hv : v.length < 9223372036854775808) (hm : ms.length < 9223372036854775808) (hg : g.ok v.length) :
    FSpec Try.prog 50 [.agg (g.c_.map .d), .c (.d (dB v)), .c (.d (dLL ms))] [] (tB (gateV ms v g)) [] := by
  obtain ⟨g1, g2, g3, g4, g5, g6, g7, g8, g9, g10⟩ := hg
  have lA : g.a.toNat < v.length := by omega
  have lB : g.b.toNat < v.length := by omega
  have lC : g.c.toNat < v.length := by omega
  obtain ⟨va, hA⟩ : ∃ va, v[g.a.toNat] = va := ⟨_, rfl⟩
  obtain ⟨vb, hB⟩ : ∃ vb, v[g.b.toNat] = vb := ⟨_, rfl⟩
  obtain ⟨vc, hC⟩ : ∃ vc, v[g.c.toNat] = vc := ⟨_, rfl⟩
  have dA : v[g.a.toNat]?.getD false = va := by simp [lA, hA]
  have dB' : v[g.b.toNat]?.getD false = vb := by simp [lB, hB]
  have dC : v[g.c.toNat]?.getD false = vc := by simp [lC, hC]
  rcases (by omega : g.op = 1 ∨ g.op = 2 ∨ g.op = 3 ∨ g.op = 4 ∨ g.op = 5 ∨ g.op = 6 ∨ g.op = 7) with hop | hop | hop | hop | hop | hop | hop
  · have ev : gateV ms v g = opV 1 va vb vc := by simp [gateV, hop, dA, dB', dC]
    rw [ev]
    refine fspec_intro Try.func50 (by kernel_rfl) rfl Try.vtOK rfl Try.ntmps50 (by simp) ?_
    repeat' (first | ((first | refine awp_seq' fun k hk => awp_region (et := Try.et) Try.vtOK Try.etOK ?_ | refine awp_region (et := Try.et) Try.vtOK Try.etOK ?_); simp (maxSteps := 5000000) (disch := first | (intro _; intros; contradiction) | omega) [i64_in, u8_in, u64_in, vgd_t, vgd_f, wgd_t, wgd_f, i64_quo, u8_quo, Int.tmod_eq_emod_of_nonneg, hop, hA, hB, hC, opV]; (repeat (refine ⟨(by first | omega | assumption), ?_⟩)); skip; (first | (refine hk _ ?_; clear hk; (try clear k)) | (clear hk; (try clear k); refine hk _ ?_; clear hk; (try clear k)) | (clear hk; (try clear k); clear hk; (try clear k); refine hk _ ?_; clear hk; (try clear k)) | (clear hk; (try clear k); clear hk; (try clear k); clear hk; (try clear k); refine hk _ ?_; clear hk; (try clear k)))) | ((first | refine awp_seq' fun k hk => awp_region_draw (et := Try.et) Try.mixed Try.vtOK Try.etOK ?_ | refine awp_region_draw (et := Try.et) Try.mixed Try.vtOK Try.etOK ?_); simp (maxSteps := 5000000) (disch := first | (intro _; intros; contradiction) | omega) [i64_in, u8_in, u64_in, vgd_t, vgd_f, wgd_t, wgd_f, i64_quo, u8_quo, Int.tmod_eq_emod_of_nonneg, hop, hA, hB, hC, opV]; (repeat (refine ⟨(by first | omega | assumption), ?_⟩)); skip; refine ⟨by kernel_rfl, ?_⟩; (first | (refine hk _ ?_; clear hk; (try clear k)) | (clear hk; (try clear k); refine hk _ ?_; clear hk; (try clear k)) | (clear hk; (try clear k); clear hk; (try clear k); refine hk _ ?_; clear hk; (try clear k)) | (clear hk; (try clear k); clear hk; (try clear k); clear hk; (try clear k); refine hk _ ?_; clear hk; (try clear k)))) | (refine awp_cond rfl rfl (fun hc => ?_) (fun hc => ?_) <;> first | (exfalso; simp at hc; done) | (simp at hc) | skip) | (refine awp_skip ?_; (first | (refine hk _ ?_; clear hk; (try clear k)) | (clear hk; (try clear k); refine hk _ ?_; clear hk; (try clear k)) | (clear hk; (try clear k); clear hk; (try clear k); refine hk _ ?_; clear hk; (try clear k)) | (clear hk; (try clear k); clear hk; (try clear k); clear hk; (try clear k); refine hk _ ?_; clear hk; (try clear k)))) | (refine awp_ret ⟨.inr rfl, ?_⟩; (try simp [hop, hA, hB, hC, opV])) | (refine awp_seq' fun k hk => ?_) | (refine awp_block ?_))
  · have ev : gateV ms v g = opV 2 va vb vc := by simp [gateV, hop, dA, dB', dC]
    rw [ev]
    cases va
    all_goals
      refine fspec_intro Try.func50 (by kernel_rfl) rfl Try.vtOK rfl Try.ntmps50 (by simp) ?_
      repeat' (first | ((first | refine awp_seq' fun k hk => awp_region (et := Try.et) Try.vtOK Try.etOK ?_ | refine awp_region (et := Try.et) Try.vtOK Try.etOK ?_); simp (maxSteps := 5000000) (disch := first | (intro _; intros; contradiction) | omega) [i64_in, u8_in, u64_in, vgd_t, vgd_f, wgd_t, wgd_f, i64_quo, u8_quo, Int.tmod_eq_emod_of_nonneg, hop, hA, hB, hC, opV]; (repeat (refine ⟨(by first | omega | assumption), ?_⟩)); skip; (first | (refine hk _ ?_; clear hk; (try clear k)) | (clear hk; (try clear k); refine hk _ ?_; clear hk; (try clear k)) | (clear hk; (try clear k); clear hk; (try clear k); refine hk _ ?_; clear hk; (try clear k)) | (clear hk; (try clear k); clear hk; (try clear k); clear hk; (try clear k); refine hk _ ?_; clear hk; (try clear k)))) | ((first | refine awp_seq' fun k hk => awp_region_draw (et := Try.et) Try.mixed Try.vtOK Try.etOK ?_ | refine awp_region_draw (et := Try.et) Try.mixed Try.vtOK Try.etOK ?_); simp (maxSteps := 5000000) (disch := first | (intro _; intros; contradiction) | omega) [i64_in, u8_in, u64_in, vgd_t, vgd_f, wgd_t, wgd_f, i64_quo, u8_quo, Int.tmod_eq_emod_of_nonneg, hop, hA, hB, hC, opV]; (repeat (refine ⟨(by first | omega | assumption), ?_⟩)); skip; refine ⟨by kernel_rfl, ?_⟩; (first | (refine hk _ ?_; clear hk; (try clear k)) | (clear hk; (try clear k); refine hk _ ?_; clear hk; (try clear k)) | (clear hk; (try clear k); clear hk; (try clear k); refine hk _ ?_; clear hk; (try clear k)) | (clear hk; (try clear k); clear hk; (try clear k); clear hk; (try clear k); refine hk _ ?_; clear hk; (try clear k)))) | (refine awp_cond rfl rfl (fun hc => ?_) (fun hc => ?_) <;> first | (exfalso; simp at hc; done) | (simp at hc) | skip) | (refine awp_skip ?_; (first | (refine hk _ ?_; clear hk; (try clear k)) | (clear hk; (try clear k); refine hk _ ?_; clear hk; (try clear k)) | (clear hk; (try clear k); clear hk; (try clear k); refine hk _ ?_; clear hk; (try clear k)) | (clear hk; (try clear k); clear hk; (try clear k); clear hk; (try clear k); refine hk _ ?_; clear hk; (try clear k)))) | (refine awp_ret ⟨.inr rfl, ?_⟩; (try simp [hop, hA, hB, hC, opV])) | (refine awp_seq' fun k hk => ?_) | (refine awp_block ?_))
  · have ev : gateV ms v g = opV 3 va vb vc := by simp [gateV, hop, dA, dB', dC]
    rw [ev]
    cases va
    all_goals
      refine fspec_intro Try.func50 (by kernel_rfl) rfl Try.vtOK rfl Try.ntmps50 (by simp) ?_
      repeat' (first | ((first | refine awp_seq' fun k hk => awp_region (et := Try.et) Try.vtOK Try.etOK ?_ | refine awp_region (et := Try.et) Try.vtOK Try.etOK ?_); simp (maxSteps := 5000000) (disch := first | (intro _; intros; contradiction) | omega) [i64_in, u8_in, u64_in, vgd_t, vgd_f, wgd_t, wgd_f, i64_quo, u8_quo, Int.tmod_eq_emod_of_nonneg, hop, hA, hB, hC, opV]; (repeat (refine ⟨(by first | omega | assumption), ?_⟩)); skip; (first | (refine hk _ ?_; clear hk; (try clear k)) | (clear hk; (try clear k); refine hk _ ?_; clear hk; (try clear k)) | (clear hk; (try clear k); clear hk; (try clear k); refine hk _ ?_; clear hk; (try clear k)) | (clear hk; (try clear k); clear hk; (try clear k); clear hk; (try clear k); refine hk _ ?_; clear hk; (try clear k)))) | ((first | refine awp_seq' fun k hk => awp_region_draw (et := Try.et) Try.mixed Try.vtOK Try.etOK ?_ | refine awp_region_draw (et := Try.et) Try.mixed Try.vtOK Try.etOK ?_); simp (maxSteps := 5000000) (disch := first | (intro _; intros; contradiction) | omega) [i64_in, u8_in, u64_in, vgd_t, vgd_f, wgd_t, wgd_f, i64_quo, u8_quo, Int.tmod_eq_emod_of_nonneg, hop, hA, hB, hC, opV]; (repeat (refine ⟨(by first | omega | assumption), ?_⟩)); skip; refine ⟨by kernel_rfl, ?_⟩; (first | (refine hk _ ?_; clear hk; (try clear k)) | (clear hk; (try clear k); refine hk _ ?_; clear hk; (try clear k)) | (clear hk; (try clear k); clear hk; (try clear k); refine hk _ ?_; clear hk; (try clear k)) | (clear hk; (try clear k); clear hk; (try clear k); clear hk; (try clear k); refine hk _ ?_; clear hk; (try clear k)))) | (refine awp_cond rfl rfl (fun hc => ?_) (fun hc => ?_) <;> first | (exfalso; simp at hc; done) | (simp at hc) | skip) | (refine awp_skip ?_; (first | (refine hk _ ?_; clear hk; (try clear k)) | (clear hk; (try clear k); refine hk _ ?_; clear hk; (try clear k)) | (clear hk; (try clear k); clear hk; (try clear k); refine hk _ ?_; clear hk; (try clear k)) | (clear hk; (try clear k); clear hk; (try clear k); clear hk; (try clear k); refine hk _ ?_; clear hk; (try clear k)))) | (refine awp_ret ⟨.inr rfl, ?_⟩; (try simp [hop, hA, hB, hC, opV])) | (refine awp_seq' fun k hk => ?_) | (refine awp_block ?_))
  · have ev : gateV ms v g = opV 4 va vb vc := by simp [gateV, hop, dA, dB', dC]
    rw [ev]
    refine fspec_intro Try.func50 (by kernel_rfl) rfl Try.vtOK rfl Try.ntmps50 (by simp) ?_
    repeat' (first | ((first | refine awp_seq' fun k hk => awp_region (et := Try.et) Try.vtOK Try.etOK ?_ | refine awp_region (et := Try.et) Try.vtOK Try.etOK ?_); simp (maxSteps := 5000000) (disch := first | (intro _; intros; contradiction) | omega) [i64_in, u8_in, u64_in, vgd_t, vgd_f, wgd_t, wgd_f, i64_quo, u8_quo, Int.tmod_eq_emod_of_nonneg, hop, hA, hB, hC, opV]; (repeat (refine ⟨(by first | omega | assumption), ?_⟩)); skip; (first | (refine hk _ ?_; clear hk; (try clear k)) | (clear hk; (try clear k); refine hk _ ?_; clear hk; (try clear k)) | (clear hk; (try clear k); clear hk; (try clear k); refine hk _ ?_; clear hk; (try clear k)) | (clear hk; (try clear k); clear hk; (try clear k); clear hk; (try clear k); refine hk _ ?_; clear hk; (try clear k)))) | ((first | refine awp_seq' fun k hk => awp_region_draw (et := Try.et) Try.mixed Try.vtOK Try.etOK ?_ | refine awp_region_draw (et := Try.et) Try.mixed Try.vtOK Try.etOK ?_); simp (maxSteps := 5000000) (disch := first | (intro _; intros; contradiction) | omega) [i64_in, u8_in, u64_in, vgd_t, vgd_f, wgd_t, wgd_f, i64_quo, u8_quo, Int.tmod_eq_emod_of_nonneg, hop, hA, hB, hC, opV]; (repeat (refine ⟨(by first | omega | assumption), ?_⟩)); skip; refine ⟨by kernel_rfl, ?_⟩; (first | (refine hk _ ?_; clear hk; (try clear k)) | (clear hk; (try clear k); refine hk _ ?_; clear hk; (try clear k)) | (clear hk; (try clear k); clear hk; (try clear k); refine hk _ ?_; clear hk; (try clear k)) | (clear hk; (try clear k); clear hk; (try clear k); clear hk; (try clear k); refine hk _ ?_; clear hk; (try clear k)))) | (refine awp_cond rfl rfl (fun hc => ?_) (fun hc => ?_) <;> first | (exfalso; simp at hc; done) | (simp at hc) | skip) | (refine awp_skip ?_; (first | (refine hk _ ?_; clear hk; (try clear k)) | (clear hk; (try clear k); refine hk _ ?_; clear hk; (try clear k)) | (clear hk; (try clear k); clear hk; (try clear k); refine hk _ ?_; clear hk; (try clear k)) | (clear hk; (try clear k); clear hk; (try clear k); clear hk; (try clear k); refine hk _ ?_; clear hk; (try clear k)))) | (refine awp_ret ⟨.inr rfl, ?_⟩; (try simp [hop, hA, hB, hC, opV])) | (refine awp_seq' fun k hk => ?_) | (refine awp_block ?_))
    cases va <;> cases vb <;> rfl
  · have ev : gateV ms v g = opV 5 va vb vc := by simp [gateV, hop, dA, dB', dC]
    rw [ev]
    cases va
    all_goals
      refine fspec_intro Try.func50 (by kernel_rfl) rfl Try.vtOK rfl Try.ntmps50 (by simp) ?_
      repeat' (first | ((first | refine awp_seq' fun k hk => awp_region (et := Try.et) Try.vtOK Try.etOK ?_ | refine awp_region (et := Try.et) Try.vtOK Try.etOK ?_); simp (maxSteps := 5000000) (disch := first | (intro _; intros; contradiction) | omega) [i64_in, u8_in, u64_in, vgd_t, vgd_f, wgd_t, wgd_f, i64_quo, u8_quo, Int.tmod_eq_emod_of_nonneg, hop, hA, hB, hC, opV]; (repeat (refine ⟨(by first | omega | assumption), ?_⟩)); skip; (first | (refine hk _ ?_; clear hk; (try clear k)) | (clear hk; (try clear k); refine hk _ ?_; clear hk; (try clear k)) | (clear hk; (try clear k); clear hk; (try clear k); refine hk _ ?_; clear hk; (try clear k)) | (clear hk; (try clear k); clear hk; (try clear k); clear hk; (try clear k); refine hk _ ?_; clear hk; (try clear k)))) | ((first | refine awp_seq' fun k hk => awp_region_draw (et := Try.et) Try.mixed Try.vtOK Try.etOK ?_ | refine awp_region_draw (et := Try.et) Try.mixed Try.vtOK Try.etOK ?_); simp (maxSteps := 5000000) (disch := first | (intro _; intros; contradiction) | omega) [i64_in, u8_in, u64_in, vgd_t, vgd_f, wgd_t, wgd_f, i64_quo, u8_quo, Int.tmod_eq_emod_of_nonneg, hop, hA, hB, hC, opV]; (repeat (refine ⟨(by first | omega | assumption), ?_⟩)); skip; refine ⟨by kernel_rfl, ?_⟩; (first | (refine hk _ ?_; clear hk; (try clear k)) | (clear hk; (try clear k); refine hk _ ?_; clear hk; (try clear k)) | (clear hk; (try clear k); clear hk; (try clear k); refine hk _ ?_; clear hk; (try clear k)) | (clear hk; (try clear k); clear hk; (try clear k); clear hk; (try clear k); refine hk _ ?_; clear hk; (try clear k)))) | (refine awp_cond rfl rfl (fun hc => ?_) (fun hc => ?_) <;> first | (exfalso; simp at hc; done) | (simp at hc) | skip) | (refine awp_skip ?_; (first | (refine hk _ ?_; clear hk; (try clear k)) | (clear hk; (try clear k); refine hk _ ?_; clear hk; (try clear k)) | (clear hk; (try clear k); clear hk; (try clear k); refine hk _ ?_; clear hk; (try clear k)) | (clear hk; (try clear k); clear hk; (try clear k); clear hk; (try clear k); refine hk _ ?_; clear hk; (try clear k)))) | (refine awp_ret ⟨.inr rfl, ?_⟩; (try simp [hop, hA, hB, hC, opV])) | (refine awp_seq' fun k hk => ?_) | (refine awp_block ?_))
  · have ev : gateV ms v g = opV 6 va vb vc := by simp [gateV, hop, dA, dB', dC]
    rw [ev]
    cases va <;> cases vb
    all_goals
      refine fspec_intro Try.func50 (by kernel_rfl) rfl Try.vtOK rfl Try.ntmps50 (by simp) ?_
      repeat' (first | ((first | refine awp_seq' fun k hk => awp_region (et := Try.et) Try.vtOK Try.etOK ?_ | refine awp_region (et := Try.et) Try.vtOK Try.etOK ?_); simp (maxSteps := 5000000) (disch := first | (intro _; intros; contradiction) | omega) [i64_in, u8_in, u64_in, vgd_t, vgd_f, wgd_t, wgd_f, i64_quo, u8_quo, Int.tmod_eq_emod_of_nonneg, hop, hA, hB, hC, opV]; (repeat (refine ⟨(by first | omega | assumption), ?_⟩)); skip; (first | (refine hk _ ?_; clear hk; (try clear k)) | (clear hk; (try clear k); refine hk _ ?_; clear hk; (try clear k)) | (clear hk; (try clear k); clear hk; (try clear k); refine hk _ ?_; clear hk; (try clear k)) | (clear hk; (try clear k); clear hk; (try clear k); clear hk; (try clear k); refine hk _ ?_; clear hk; (try clear k)))) | ((first | refine awp_seq' fun k hk => awp_region_draw (et := Try.et) Try.mixed Try.vtOK Try.etOK ?_ | refine awp_region_draw (et := Try.et) Try.mixed Try.vtOK Try.etOK ?_); simp (maxSteps := 5000000) (disch := first | (intro _; intros; contradiction) | omega) [i64_in, u8_in, u64_in, vgd_t, vgd_f, wgd_t, wgd_f, i64_quo, u8_quo, Int.tmod_eq_emod_of_nonneg, hop, hA, hB, hC, opV]; (repeat (refine ⟨(by first | omega | assumption), ?_⟩)); skip; refine ⟨by kernel_rfl, ?_⟩; (first | (refine hk _ ?_; clear hk; (try clear k)) | (clear hk; (try clear k); refine hk _ ?_; clear hk; (try clear k)) | (clear hk; (try clear k); clear hk; (try clear k); refine hk _ ?_; clear hk; (try clear k)) | (clear hk; (try clear k); clear hk; (try clear k); clear hk; (try clear k); refine hk _ ?_; clear hk; (try clear k)))) | (refine awp_cond rfl rfl (fun hc => ?_) (fun hc => ?_) <;> first | (exfalso; simp at hc; done) | (simp at hc) | skip) | (refine awp_skip ?_; (first | (refine hk _ ?_; clear hk; (try clear k)) | (clear hk; (try clear k); refine hk _ ?_; clear hk; (try clear k)) | (clear hk; (try clear k); clear hk; (try clear k); refine hk _ ?_; clear hk; (try clear k)) | (clear hk; (try clear k); clear hk; (try clear k); clear hk; (try clear k); refine hk _ ?_; clear hk; (try clear k)))) | (refine awp_ret ⟨.inr rfl, ?_⟩; (try simp [hop, hA, hB, hC, opV])) | (refine awp_seq' fun k hk => ?_) | (refine awp_block ?_))
  · have ev : gateV ms v g = rdB ms g.n (numI [va, vb, vc] 3) := by simp [gateV, hop, dA, dB', dC]
    rw [ev]
    refine fspec_intro Try.func50 (by kernel_rfl) rfl Try.vtOK rfl Try.ntmps50 (by simp) ?_
    repeat' (first | ((first | refine awp_seq' fun k hk => awp_region (et := Try.et) Try.vtOK Try.etOK ?_ | refine awp_region (et := Try.et) Try.vtOK Try.etOK ?_); simp (maxSteps := 5000000) (disch := first | (intro _; intros; contradiction) | omega) [i64_in, u8_in, u64_in, vgd_t, vgd_f, wgd_t, wgd_f, i64_quo, u8_quo, Int.tmod_eq_emod_of_nonneg, hop, hA, hB, hC, opV]; (repeat (refine ⟨(by first | omega | assumption), ?_⟩)); skip; (first | (refine hk _ ?_; clear hk; (try clear k)) | (clear hk; (try clear k); refine hk _ ?_; clear hk; (try clear k)) | (clear hk; (try clear k); clear hk; (try clear k); refine hk _ ?_; clear hk; (try clear k)) | (clear hk; (try clear k); clear hk; (try clear k); clear hk; (try clear k); refine hk _ ?_; clear hk; (try clear k)))) | ((first | refine awp_seq' fun k hk => awp_region_draw (et := Try.et) Try.mixed Try.vtOK Try.etOK ?_ | refine awp_region_draw (et := Try.et) Try.mixed Try.vtOK Try.etOK ?_); simp (maxSteps := 5000000) (disch := first | (intro _; intros; contradiction) | omega) [i64_in, u8_in, u64_in, vgd_t, vgd_f, wgd_t, wgd_f, i64_quo, u8_quo, Int.tmod_eq_emod_of_nonneg, hop, hA, hB, hC, opV]; (repeat (refine ⟨(by first | omega | assumption), ?_⟩)); skip; refine ⟨by kernel_rfl, ?_⟩; (first | (refine hk _ ?_; clear hk; (try clear k)) | (clear hk; (try clear k); refine hk _ ?_; clear hk; (try clear k)) | (clear hk; (try clear k); clear hk; (try clear k); refine hk _ ?_; clear hk; (try clear k)) | (clear hk; (try clear k); clear hk; (try clear k); clear hk; (try clear k); refine hk _ ?_; clear hk; (try clear k)))) | (refine awp_cond rfl rfl (fun hc => ?_) (fun hc => ?_) <;> first | (exfalso; simp at hc; done) | (simp at hc) | skip) | (refine awp_skip ?_; (first | (refine hk _ ?_; clear hk; (try clear k)) | (clear hk; (try clear k); refine hk _ ?_; clear hk; (try clear k)) | (clear hk; (try clear k); clear hk; (try clear k); refine hk _ ?_; clear hk; (try clear k)) | (clear hk; (try clear k); clear hk; (try clear k); clear hk; (try clear k); refine hk _ ?_; clear hk; (try clear k)))) | (refine awp_ret ⟨.inr rfl, ?_⟩; (try simp [hop, hA, hB, hC, opV])) | (refine awp_seq' fun k hk => ?_) | (refine awp_block ?_))
    refine awp_for (fun q s => ∃ i : Nat, q = 3 - i ∧ i ≤ 3 ∧ s = ⟨[(12, tI .i64 i), (11, .c (.row 1056 3)), (10, tI .i64 (numI [va, vb, vc] i)), (1, .c (.d (dB v))), (2, .c (.d (dLL ms))), (3, .c (.ptr 48 0))], [(1056, .row false 4 1 3 fun j => [[.s (.bool va)], [.s (.bool vb)], [.s (.bool vc)]][j]?.getD []), (48, .box false [.d (.s (.int .i64 7)), .d (.s (.int .i64 g.a)), .d (.s (.int .i64 g.b)), .d (.s (.int .i64 g.c)), .d (.s (.int .i64 g.n))])]⟩) (3) (weak_mk (by simp) (by simp <;> first | exact lit rfl | exact .refl _ | exact .nil _) (by simp)) ⟨0, by simp, by simp, rfl⟩ ?_
    rintro q s ⟨i, rfl, hii, rfl⟩ kl hkl
    by_cases hi3 : i < 3
    · rcases (by omega : i = 0 ∨ i = 1 ∨ i = 2) with rfl | rfl | rfl
      · cases va
        all_goals
          repeat' (first | ((first | refine awp_seq' fun k hk => awp_region (et := Try.et) Try.vtOK Try.etOK ?_ | refine awp_region (et := Try.et) Try.vtOK Try.etOK ?_); simp (maxSteps := 5000000) (disch := first | (intro _; intros; contradiction) | omega) [i64_in, u8_in, u64_in, vgd_t, vgd_f, wgd_t, wgd_f, i64_quo, u8_quo, Int.tmod_eq_emod_of_nonneg, sh0]; (repeat (refine ⟨(by first | omega | assumption), ?_⟩)); skip; (first | (refine hk _ ?_; clear hk; (try clear k)) | (clear hk; (try clear k); refine hk _ ?_; clear hk; (try clear k)) | (clear hk; (try clear k); clear hk; (try clear k); refine hk _ ?_; clear hk; (try clear k)) | (clear hk; (try clear k); clear hk; (try clear k); clear hk; (try clear k); refine hk _ ?_; clear hk; (try clear k)))) | ((first | refine awp_seq' fun k hk => awp_region_draw (et := Try.et) Try.mixed Try.vtOK Try.etOK ?_ | refine awp_region_draw (et := Try.et) Try.mixed Try.vtOK Try.etOK ?_); simp (maxSteps := 5000000) (disch := first | (intro _; intros; contradiction) | omega) [i64_in, u8_in, u64_in, vgd_t, vgd_f, wgd_t, wgd_f, i64_quo, u8_quo, Int.tmod_eq_emod_of_nonneg, sh0]; (repeat (refine ⟨(by first | omega | assumption), ?_⟩)); skip; refine ⟨by kernel_rfl, ?_⟩; (first | (refine hk _ ?_; clear hk; (try clear k)) | (clear hk; (try clear k); refine hk _ ?_; clear hk; (try clear k)) | (clear hk; (try clear k); clear hk; (try clear k); refine hk _ ?_; clear hk; (try clear k)) | (clear hk; (try clear k); clear hk; (try clear k); clear hk; (try clear k); refine hk _ ?_; clear hk; (try clear k)))) | (refine awp_cond rfl rfl (fun hc => ?_) (fun hc => ?_) <;> first | (exfalso; simp at hc; done) | (simp at hc) | skip) | (refine awp_skip ?_; (first | (refine hk _ ?_; clear hk; (try clear k)) | (clear hk; (try clear k); refine hk _ ?_; clear hk; (try clear k)) | (clear hk; (try clear k); clear hk; (try clear k); refine hk _ ?_; clear hk; (try clear k)) | (clear hk; (try clear k); clear hk; (try clear k); clear hk; (try clear k); refine hk _ ?_; clear hk; (try clear k)))) | (refine awp_ret ⟨.inr rfl, ?_⟩; (try simp [sh0])) | (refine awp_seq' fun k hk => ?_) | (refine awp_block ?_))
          refine awp_region (et := Try.et) Try.vtOK Try.etOK ?_
          simp (maxSteps := 5000000) (disch := first | (intro _; intros; contradiction) | omega) [i64_in, u8_in, vgd_t, vgd_f, wgd_t, wgd_f]
          refine hkl _ _ _ (by omega) ⟨1, rfl, by omega, rfl⟩ (weak_mk (by simp [num1]) (by simp) (by simp))
      · cases vb <;> cases va
        all_goals
          repeat' (first | ((first | refine awp_seq' fun k hk => awp_region (et := Try.et) Try.vtOK Try.etOK ?_ | refine awp_region (et := Try.et) Try.vtOK Try.etOK ?_); simp (maxSteps := 5000000) (disch := first | (intro _; intros; contradiction) | omega) [i64_in, u8_in, u64_in, vgd_t, vgd_f, wgd_t, wgd_f, i64_quo, u8_quo, Int.tmod_eq_emod_of_nonneg, sh1, num1]; (repeat (refine ⟨(by first | omega | assumption), ?_⟩)); skip; (first | (refine hk _ ?_; clear hk; (try clear k)) | (clear hk; (try clear k); refine hk _ ?_; clear hk; (try clear k)) | (clear hk; (try clear k); clear hk; (try clear k); refine hk _ ?_; clear hk; (try clear k)) | (clear hk; (try clear k); clear hk; (try clear k); clear hk; (try clear k); refine hk _ ?_; clear hk; (try clear k)))) | ((first | refine awp_seq' fun k hk => awp_region_draw (et := Try.et) Try.mixed Try.vtOK Try.etOK ?_ | refine awp_region_draw (et := Try.et) Try.mixed Try.vtOK Try.etOK ?_); simp (maxSteps := 5000000) (disch := first | (intro _; intros; contradiction) | omega) [i64_in, u8_in, u64_in, vgd_t, vgd_f, wgd_t, wgd_f, i64_quo, u8_quo, Int.tmod_eq_emod_of_nonneg, sh1, num1]; (repeat (refine ⟨(by first | omega | assumption), ?_⟩)); skip; refine ⟨by kernel_rfl, ?_⟩; (first | (refine hk _ ?_; clear hk; (try clear k)) | (clear hk; (try clear k); refine hk _ ?_; clear hk; (try clear k)) | (clear hk; (try clear k); clear hk; (try clear k); refine hk _ ?_; clear hk; (try clear k)) | (clear hk; (try clear k); clear hk; (try clear k); clear hk; (try clear k); refine hk _ ?_; clear hk; (try clear k)))) | (refine awp_cond rfl rfl (fun hc => ?_) (fun hc => ?_) <;> first | (exfalso; simp at hc; done) | (simp at hc) | skip) | (refine awp_skip ?_; (first | (refine hk _ ?_; clear hk; (try clear k)) | (clear hk; (try clear k); refine hk _ ?_; clear hk; (try clear k)) | (clear hk; (try clear k); clear hk; (try clear k); refine hk _ ?_; clear hk; (try clear k)) | (clear hk; (try clear k); clear hk; (try clear k); clear hk; (try clear k); refine hk _ ?_; clear hk; (try clear k)))) | (refine awp_ret ⟨.inr rfl, ?_⟩; (try simp [sh1, num1])) | (refine awp_seq' fun k hk => ?_) | (refine awp_block ?_))
          refine awp_region (et := Try.et) Try.vtOK Try.etOK ?_
          simp (maxSteps := 5000000) (disch := first | (intro _; intros; contradiction) | omega) [i64_in, u8_in, vgd_t, vgd_f, wgd_t, wgd_f]
          refine hkl _ _ _ (by omega) ⟨2, rfl, by omega, rfl⟩ (weak_mk (by simp [num2]) (by simp) (by simp))
      · cases vc <;> cases vb <;> cases va
        all_goals
          repeat' (first | ((first | refine awp_seq' fun k hk => awp_region (et := Try.et) Try.vtOK Try.etOK ?_ | refine awp_region (et := Try.et) Try.vtOK Try.etOK ?_); simp (maxSteps := 5000000) (disch := first | (intro _; intros; contradiction) | omega) [i64_in, u8_in, u64_in, vgd_t, vgd_f, wgd_t, wgd_f, i64_quo, u8_quo, Int.tmod_eq_emod_of_nonneg, sh2, num2]; (repeat (refine ⟨(by first | omega | assumption), ?_⟩)); skip; (first | (refine hk _ ?_; clear hk; (try clear k)) | (clear hk; (try clear k); refine hk _ ?_; clear hk; (try clear k)) | (clear hk; (try clear k); clear hk; (try clear k); refine hk _ ?_; clear hk; (try clear k)) | (clear hk; (try clear k); clear hk; (try clear k); clear hk; (try clear k); refine hk _ ?_; clear hk; (try clear k)))) | ((first | refine awp_seq' fun k hk => awp_region_draw (et := Try.et) Try.mixed Try.vtOK Try.etOK ?_ | refine awp_region_draw (et := Try.et) Try.mixed Try.vtOK Try.etOK ?_); simp (maxSteps := 5000000) (disch := first | (intro _; intros; contradiction) | omega) [i64_in, u8_in, u64_in, vgd_t, vgd_f, wgd_t, wgd_f, i64_quo, u8_quo, Int.tmod_eq_emod_of_nonneg, sh2, num2]; (repeat (refine ⟨(by first | omega | assumption), ?_⟩)); skip; refine ⟨by kernel_rfl, ?_⟩; (first | (refine hk _ ?_; clear hk; (try clear k)) | (clear hk; (try clear k); refine hk _ ?_; clear hk; (try clear k)) | (clear hk; (try clear k); clear hk; (try clear k); refine hk _ ?_; clear hk; (try clear k)) | (clear hk; (try clear k); clear hk; (try clear k); clear hk; (try clear k); refine hk _ ?_; clear hk; (try clear k)))) | (refine awp_cond rfl rfl (fun hc => ?_) (fun hc => ?_) <;> first | (exfalso; simp at hc; done) | (simp at hc) | skip) | (refine awp_skip ?_; (first | (refine hk _ ?_; clear hk; (try clear k)) | (clear hk; (try clear k); refine hk _ ?_; clear hk; (try clear k)) | (clear hk; (try clear k); clear hk; (try clear k); refine hk _ ?_; clear hk; (try clear k)) | (clear hk; (try clear k); clear hk; (try clear k); clear hk; (try clear k); refine hk _ ?_; clear hk; (try clear k)))) | (refine awp_ret ⟨.inr rfl, ?_⟩; (try simp [sh2, num2])) | (refine awp_seq' fun k hk => ?_) | (refine awp_block ?_))
          refine awp_region (et := Try.et) Try.vtOK Try.etOK ?_
          simp (maxSteps := 5000000) (disch := first | (intro _; intros; contradiction) | omega) [i64_in, u8_in, vgd_t, vgd_f, wgd_t, wgd_f]
          refine hkl _ _ _ (by omega) ⟨3, rfl, by omega, rfl⟩ (weak_mk (by simp [num3]) (by simp) (by simp))
    · obtain rfl : i = 3 := by omega
      repeat' (first | ((first | refine awp_seq' fun k hk => awp_region (et := Try.et) Try.vtOK Try.etOK ?_ | refine awp_region (et := Try.et) Try.vtOK Try.etOK ?_); simp (maxSteps := 5000000) (disch := first | (intro _; intros; contradiction) | omega) [i64_in, u8_in, u64_in, vgd_t, vgd_f, wgd_t, wgd_f, i64_quo, u8_quo, Int.tmod_eq_emod_of_nonneg]; (repeat (refine ⟨(by first | omega | assumption), ?_⟩)); skip; (first | (refine hk _ ?_; clear hk; (try clear k)) | (clear hk; (try clear k); refine hk _ ?_; clear hk; (try clear k)) | (clear hk; (try clear k); clear hk; (try clear k); refine hk _ ?_; clear hk; (try clear k)) | (clear hk; (try clear k); clear hk; (try clear k); clear hk; (try clear k); refine hk _ ?_; clear hk; (try clear k)))) | ((first | refine awp_seq' fun k hk => awp_region_draw (et := Try.et) Try.mixed Try.vtOK Try.etOK ?_ | refine awp_region_draw (et := Try.et) Try.mixed Try.vtOK Try.etOK ?_); simp (maxSteps := 5000000) (disch := first | (intro _; intros; contradiction) | omega) [i64_in, u8_in, u64_in, vgd_t, vgd_f, wgd_t, wgd_f, i64_quo, u8_quo, Int.tmod_eq_emod_of_nonneg]; (repeat (refine ⟨(by first | omega | assumption), ?_⟩)); skip; refine ⟨by kernel_rfl, ?_⟩; (first | (refine hk _ ?_; clear hk; (try clear k)) | (clear hk; (try clear k); refine hk _ ?_; clear hk; (try clear k)) | (clear hk; (try clear k); clear hk; (try clear k); refine hk _ ?_; clear hk; (try clear k)) | (clear hk; (try clear k); clear hk; (try clear k); clear hk; (try clear k); refine hk _ ?_; clear hk; (try clear k)))) | (refine awp_cond rfl rfl (fun hc => ?_) (fun hc => ?_) <;> first | (exfalso; simp at hc; done) | (simp at hc) | skip) | (refine awp_skip ?_; (first | (refine hk _ ?_; clear hk; (try clear k)) | (clear hk; (try clear k); refine hk _ ?_; clear hk; (try clear k)) | (clear hk; (try clear k); clear hk; (try clear k); refine hk _ ?_; clear hk; (try clear k)) | (clear hk; (try clear k); clear hk; (try clear k); clear hk; (try clear k); refine hk _ ?_; clear hk; (try clear k)))) | (refine awp_ret ⟨.inr rfl, ?_⟩; (try simp [])) | (refine awp_seq' fun k hk => ?_) | (refine awp_block ?_))
      refine awp_exit ?_
      simp
      (first | (refine hk _ ?_; clear hk; (try clear k)) | (clear hk; (try clear k); refine hk _ ?_; clear hk; (try clear k)) | (clear hk; (try clear k); clear hk; (try clear k); refine hk _ ?_; clear hk; (try clear k)) | (clear hk; (try clear k); clear hk; (try clear k); clear hk; (try clear k); refine hk _ ?_; clear hk; (try clear k)))
      have n3 := numI3 va vb vc
      generalize numI [va, vb, vc] 3 = at3 at *
      have e1 : g.n.tdiv 8 = g.n / 8 := Int.tdiv_eq_ediv_of_nonneg g9
      have e2 : g.n.tmod 8 = g.n % 8 := Int.tmod_eq_emod_of_nonneg g9
      refine awp_seq' fun k hk => awp_region_draw (et := Try.et) Try.mixed Try.vtOK Try.etOK ?_
      simp (maxSteps := 5000000) (disch := first | (intro _; intros; contradiction) | omega) [i64_in, u8_in, u64_in, vgd_t, vgd_f, wgd_t, wgd_f, i64_quo, u8_quo, Int.tmod_eq_emod_of_nonneg, e1, e2]
      refine ⟨fun h1 => ⟨by omega, fun h2 => ⟨by omega, by omega, by omega, by kernel_rfl, ?_⟩, fun h2 => ⟨by kernel_rfl, ?_⟩⟩, fun h1 => ⟨by kernel_rfl, ?_⟩⟩
      · (first | (refine hk _ ?_; clear hk; (try clear k)) | (clear hk; (try clear k); refine hk _ ?_; clear hk; (try clear k)) | (clear hk; (try clear k); clear hk; (try clear k); refine hk _ ?_; clear hk; (try clear k)) | (clear hk; (try clear k); clear hk; (try clear k); clear hk; (try clear k); refine hk _ ?_; clear hk; (try clear k)))
        refine awp_ret ⟨.inr rfl, ?_⟩
        have e : rdB ms g.n at3 = hasB ((ms[(g.n / 8).toNat]?.getD [])[at3.toNat]?.getD 0) (g.n % 8) := by simp only [rdB, decide_eq_true h1, decide_eq_true h2, Bool.true_and]
        rw [e]
        simp [hasB]
      · (first | (refine hk _ ?_; clear hk; (try clear k)) | (clear hk; (try clear k); refine hk _ ?_; clear hk; (try clear k)) | (clear hk; (try clear k); clear hk; (try clear k); refine hk _ ?_; clear hk; (try clear k)) | (clear hk; (try clear k); clear hk; (try clear k); clear hk; (try clear k); refine hk _ ?_; clear hk; (try clear k)))
        refine awp_ret ⟨.inr rfl, ?_⟩
        have : ¬ at3 < ((ms[(g.n / 8).toNat]?.getD []).length : Int) := by omega
        simp [rdB, this]
      · (first | (refine hk _ ?_; clear hk; (try clear k)) | (clear hk; (try clear k); refine hk _ ?_; clear hk; (try clear k)) | (clear hk; (try clear k); clear hk; (try clear k); refine hk _ ?_; clear hk; (try clear k)) | (clear hk; (try clear k); clear hk; (try clear k); clear hk; (try clear k); refine hk _ ?_; clear hk; (try clear k)))
        refine awp_ret ⟨.inr rfl, ?_⟩
        have : ¬ g.n / 8 < (ms.length : Int) := by omega
        simp [rdB, this]
end Go.Proofs

/- NQ5: the plain laws: gates, cones, complements. -/
namespace Go.Proofs
open Go.V

theorem evI_prefix (gs : List Ga) (ms : List (List Int)) (v : List Bool) (i : Nat) : ∀ n, i ≤ n → ∃ r, evI gs ms v n = evI gs ms v i ++ r
  | 0, h => ⟨[], by rw [show i = 0 by omega]; simp⟩
  | n + 1, h => by
    by_cases e : i = n + 1
    · subst e; exact ⟨[], by simp⟩
    · obtain ⟨r, hr⟩ := evI_prefix gs ms v i n (by omega)
      exact ⟨r ++ [_], by simp only [evI]; rw [hr, List.append_assoc, ← hr]⟩
theorem evI_get {gs : List Ga} {ms : List (List Int)} {v : List Bool} {i n j : Nat} (h : i ≤ n) (hj : j < v.length + i) : (evI gs ms v n)[j]?.getD false = (evI gs ms v i)[j]?.getD false := by
  obtain ⟨r, hr⟩ := evI_prefix gs ms v i n h
  rw [hr, List.getElem?_append_left (by rw [evI_length]; exact hj)]
/-- How many operands a gate has. -/
theorem gateV_congr {ms : List (List Int)} {u v : List Bool} {g : Ga} (ha : u[g.a.toNat]?.getD false = v[g.a.toNat]?.getD false) (hb : g.op ≠ 1 → u[g.b.toNat]?.getD false = v[g.b.toNat]?.getD false) (hc : 5 ≤ g.op → u[g.c.toNat]?.getD false = v[g.c.toNat]?.getD false) (h : 1 ≤ g.op ∧ g.op ≤ 7) : gateV ms u g = gateV ms v g := by
  unfold gateV
  rcases (by omega : g.op = 1 ∨ g.op = 2 ∨ g.op = 3 ∨ g.op = 4 ∨ g.op = 5 ∨ g.op = 6 ∨ g.op = 7) with e | e | e | e | e | e | e
  · simp only [e, ha, opV]; simp
  · simp only [e, ha, hb (by omega), opV]; simp
  · simp only [e, ha, hb (by omega), opV]; simp
  · simp only [e, ha, hb (by omega), opV]; simp
  · simp only [e, ha, hb (by omega), hc (by omega)]
  · simp only [e, ha, hb (by omega), hc (by omega)]
  · simp only [e, ha, hb (by omega), hc (by omega)]
theorem evI_at {gs : List Ga} {ms : List (List Int)} {v : List Bool} {i n : Nat} (h : i < n) (ok : (gs[i]?.getD default).ok (v.length + i)) : (evI gs ms v n)[v.length + i]?.getD false = gateV ms (evI gs ms v n) (gs[i]?.getD default) := by
  rw [evI_get (i := i + 1) (by omega) (by omega)]
  simp only [evI]
  rw [List.getElem?_append_right (by rw [evI_length]; omega), evI_length]
  obtain ⟨g1, g2, g3, g4, g5, g6, g7, g8, g9, g10⟩ := ok
  simp only [Nat.sub_self, List.getElem?_cons_zero, Option.getD_some]
  exact gateV_congr (evI_get (by omega) (by omega)).symm (fun _ => (evI_get (by omega) (by omega)).symm) (fun _ => (evI_get (by omega) (by omega)).symm) ⟨g1, g2⟩
/-- States, heads, rooms, values and numbers. -/
structure Od where
  regs : List Int
  mems : List (List Int)
  heads : List (Bool × Int)
  rooms : List Bool
  v : List Int
  kk : Int
  e0 : Int
  e1 : Int
@[simp] def Od.c_ (z : Od) : List C := [.d (dL z.regs), .d (dLL z.mems), .d (dH z.heads), .d (dB z.rooms), .d (dU z.v), .d (.s (.int .i64 z.kk)), .d (.s (.int .i8 z.e0)), .d (.s (.int .i8 z.e1))]
structure Od.ok (z : Od) : Prop where
  regs : z.regs.length < 9223372036854775808
  mems : z.mems.length < 9223372036854775808
  heads : z.heads.length < 9223372036854775808
  rooms : z.rooms.length < 9223372036854775808
  v : z.v.length < 9223372036854775808
  ml : ∀ m ∈ z.mems, m.length < 9223372036854775808
  u8 : ∀ b ∈ z.v, 0 ≤ b ∧ b < 256
structure R22.fit (x : R22) : Prop where
  ok : x.ok
  ins : x.ins.length < 9223372036854775808
  gates : x.gates.length < 9223372036854775808
  outs : x.outs.length < 9223372036854775808
end Go.Proofs

namespace Go.Proofs
open Go.V IntWalk
set_option maxRecDepth 100000
set_option maxHeartbeats 8000000
set_option linter.unusedSimpArgs false
set_option linter.unusedVariables false

theorem law22_NetsimGates_S (x : R22) (z : Od) (hx : x.fit) (hz : z.ok) : FSpec Try.prog 10 [.agg x.c_, .agg z.c_] [] (tB true) [] := by
  obtain ⟨okx, okw, hgl⟩ := madeN_okX x hx.ok
  have hI := mkI_len x
  rw [← madeN_ins x] at okx hI
  have cm := ref22_Made_S x hx.ok hx.ins hx.gates hx.outs
  generalize madeN x = n at *
  have cb := ref22_Bools_S n.ins.length z.v (by omega) hz.v hz.u8
  have hbl := boolsI_len z.v n.ins.length
  generalize boolsI z.v n.ins.length = xs at *
  rw [← hbl] at okx
  have ce := netsim_Eval_S n xs z.mems (by omega) (by omega) hz.mems okx.2.2.2.2.1
  have hvl : (evI n.gates z.mems (false :: true :: xs) n.gates.length).length = 2 + xs.length + n.gates.length := by rw [evI_length]; simp; omega
  have v0 : (evI n.gates z.mems (false :: true :: xs) n.gates.length)[0]?.getD false = false := by rw [evI_get (i := 0) (by omega) (by simp)]; rfl
  have v1 : (evI n.gates z.mems (false :: true :: xs) n.gates.length)[1]?.getD false = true := by rw [evI_get (i := 0) (by omega) (by simp)]; rfl
  have v2 : ∀ j, j < xs.length → (evI n.gates z.mems (false :: true :: xs) n.gates.length)[2 + j]?.getD false = xs[j]?.getD false := fun j hj => by rw [evI_get (i := 0) (by omega) (by simp; omega)]; rw [Nat.add_comm 2 j]; rfl
  have vg : ∀ i, i < n.gates.length → (evI n.gates z.mems (false :: true :: xs) n.gates.length)[2 + xs.length + i]?.getD false = gateV z.mems (evI n.gates z.mems (false :: true :: xs) n.gates.length) (n.gates[i]?.getD default) := fun i hi => by
    have := evI_at (gs := n.gates) (ms := z.mems) (v := false :: true :: xs) hi (by have := okx.2.2.2.2.1 i hi; simpa [Nat.add_comm, Nat.add_left_comm] using this)
    simpa [Nat.add_comm, Nat.add_left_comm] using this
  have hok : ∀ i, i < n.gates.length → (n.gates[i]?.getD default).ok (2 + xs.length + n.gates.length) := fun i hi => by
    obtain ⟨g1, g2, g3, g4, g5, g6, g7, g8, g9, g10⟩ := okx.2.2.2.2.1 i hi
    exact ⟨g1, g2, g3, by omega, g5, by omega, g7, by omega, g9, g10⟩
  generalize evI n.gates z.mems (false :: true :: xs) n.gates.length = v at *
  refine fspec_intro Try.func10 (by kernel_rfl) rfl Try.vtOK rfl Try.ntmps10 (by simp) ?_
  repeat' (first | ((first | refine awp_seq' fun k hk => awp_region (et := Try.et) Try.vtOK Try.etOK ?_ | refine awp_region (et := Try.et) Try.vtOK Try.etOK ?_); simp (maxSteps := 5000000) (disch := first | (intro _; intros; contradiction) | omega) [i64_in, u8_in, u64_in, vgd_t, vgd_f, wgd_t, wgd_f, i64_quo, u8_quo, Int.tmod_eq_emod_of_nonneg]; (repeat (refine ⟨(by first | omega | assumption), ?_⟩)); (repeat ((first | refine vcall_fn rfl (by simp) (LeTs.refl _) (law22_examples_S) ?_ | refine vcall_fn rfl (by simp) (LeTs.refl _) (law22_little_S z.regs z.mems z.heads z.rooms z.v z.kk z.e0 z.e1 hz.regs hz.mems hz.heads hz.rooms hz.v hz.ml) ?_ | refine vcall_fn rfl (by simp) (LeTs.refl _) (cm) ?_ | refine vcall_fn rfl (by simp) (LeTs.refl _) (cb) ?_ | refine vcall_fn rfl (by simp) (LeTs.refl _) (ce) ?_); simp (maxSteps := 5000000) (disch := first | (intro _; intros; contradiction) | omega) [i64_in, u8_in, u64_in, vgd_t, vgd_f, wgd_t, wgd_f, i64_quo, u8_quo, Int.tmod_eq_emod_of_nonneg]; (repeat (refine ⟨(by first | omega | assumption), ?_⟩)))); (first | (refine hk _ ?_; clear hk; (try clear k)) | (clear hk; (try clear k); refine hk _ ?_; clear hk; (try clear k)) | (clear hk; (try clear k); clear hk; (try clear k); refine hk _ ?_; clear hk; (try clear k)) | (clear hk; (try clear k); clear hk; (try clear k); clear hk; (try clear k); refine hk _ ?_; clear hk; (try clear k)))) | ((first | refine awp_seq' fun k hk => awp_region_draw (et := Try.et) Try.mixed Try.vtOK Try.etOK ?_ | refine awp_region_draw (et := Try.et) Try.mixed Try.vtOK Try.etOK ?_); simp (maxSteps := 5000000) (disch := first | (intro _; intros; contradiction) | omega) [i64_in, u8_in, u64_in, vgd_t, vgd_f, wgd_t, wgd_f, i64_quo, u8_quo, Int.tmod_eq_emod_of_nonneg]; (repeat (refine ⟨(by first | omega | assumption), ?_⟩)); (repeat ((first | refine wcall_fn rfl (by simp) (LeTs.refl _) (law22_examples_S) ?_ | refine wcall_fn rfl (by simp) (LeTs.refl _) (law22_little_S z.regs z.mems z.heads z.rooms z.v z.kk z.e0 z.e1 hz.regs hz.mems hz.heads hz.rooms hz.v hz.ml) ?_ | refine wcall_fn rfl (by simp) (LeTs.refl _) (cm) ?_ | refine wcall_fn rfl (by simp) (LeTs.refl _) (cb) ?_ | refine wcall_fn rfl (by simp) (LeTs.refl _) (ce) ?_); simp (maxSteps := 5000000) (disch := first | (intro _; intros; contradiction) | omega) [i64_in, u8_in, u64_in, vgd_t, vgd_f, wgd_t, wgd_f, i64_quo, u8_quo, Int.tmod_eq_emod_of_nonneg]; (repeat (refine ⟨(by first | omega | assumption), ?_⟩)))); refine ⟨by kernel_rfl, ?_⟩; (first | (refine hk _ ?_; clear hk; (try clear k)) | (clear hk; (try clear k); refine hk _ ?_; clear hk; (try clear k)) | (clear hk; (try clear k); clear hk; (try clear k); refine hk _ ?_; clear hk; (try clear k)) | (clear hk; (try clear k); clear hk; (try clear k); clear hk; (try clear k); refine hk _ ?_; clear hk; (try clear k)))) | (refine awp_cond rfl rfl (fun hc => ?_) (fun hc => ?_) <;> first | (exfalso; simp at hc; done) | (simp at hc) | skip) | (refine awp_skip ?_; (first | (refine hk _ ?_; clear hk; (try clear k)) | (clear hk; (try clear k); refine hk _ ?_; clear hk; (try clear k)) | (clear hk; (try clear k); clear hk; (try clear k); refine hk _ ?_; clear hk; (try clear k)) | (clear hk; (try clear k); clear hk; (try clear k); clear hk; (try clear k); refine hk _ ?_; clear hk; (try clear k)))) | (refine awp_ret ⟨.inr rfl, ?_⟩; (try simp [])) | (refine awp_seq' fun k hk => ?_) | (refine awp_block ?_))
  have l0 : v[0]'(by omega) = false := by have h := v0; rwa [List.getElem?_eq_getElem (by omega), Option.getD_some] at h
  have l1 : v[1]'(by omega) = true := by have h := v1; rwa [List.getElem?_eq_getElem (by omega), Option.getD_some] at h
  have lq : ((v.length : Int) != 2 + xs.length + n.gates.length) = false := by simp; omega
  refine awp_region (et := Try.et) Try.vtOK Try.etOK ?_
  simp (maxSteps := 5000000) (disch := first | (intro _; intros; contradiction) | omega) [i64_in, u8_in, u64_in, vgd_t, vgd_f, wgd_t, wgd_f, i64_quo, u8_quo, Int.tmod_eq_emod_of_nonneg, lq, l0, l1]
  refine ⟨by omega, by omega, by omega, ?_⟩
  refine vcall_fn rfl (by simp) ?_ (ref13_Bools_S xs xs (by omega) (by omega)) ?_
  · simp
    rw [show (2 + (xs.length : Int)).toNat - 2 = xs.length by omega]
    exact LeD.ext fun j hj => by simp [v2 j hj]
  simp (maxSteps := 5000000) (disch := first | (intro _; intros; contradiction) | omega) [i64_in, u8_in, u64_in, vgd_t, vgd_f, wgd_t, wgd_f, i64_quo, u8_quo, Int.tmod_eq_emod_of_nonneg]
  (first | (refine hk _ ?_; clear hk; (try clear k)) | (clear hk; (try clear k); refine hk _ ?_; clear hk; (try clear k)) | (clear hk; (try clear k); clear hk; (try clear k); refine hk _ ?_; clear hk; (try clear k)) | (clear hk; (try clear k); clear hk; (try clear k); clear hk; (try clear k); refine hk _ ?_; clear hk; (try clear k)))
  repeat' (first | ((first | refine awp_seq' fun k hk => awp_region (et := Try.et) Try.vtOK Try.etOK ?_ | refine awp_region (et := Try.et) Try.vtOK Try.etOK ?_); simp (maxSteps := 5000000) (disch := first | (intro _; intros; contradiction) | omega) [i64_in, u8_in, u64_in, vgd_t, vgd_f, wgd_t, wgd_f, i64_quo, u8_quo, Int.tmod_eq_emod_of_nonneg]; (repeat (refine ⟨(by first | omega | assumption), ?_⟩)); skip; (first | (refine hk _ ?_; clear hk; (try clear k)) | (clear hk; (try clear k); refine hk _ ?_; clear hk; (try clear k)) | (clear hk; (try clear k); clear hk; (try clear k); refine hk _ ?_; clear hk; (try clear k)) | (clear hk; (try clear k); clear hk; (try clear k); clear hk; (try clear k); refine hk _ ?_; clear hk; (try clear k)))) | ((first | refine awp_seq' fun k hk => awp_region_draw (et := Try.et) Try.mixed Try.vtOK Try.etOK ?_ | refine awp_region_draw (et := Try.et) Try.mixed Try.vtOK Try.etOK ?_); simp (maxSteps := 5000000) (disch := first | (intro _; intros; contradiction) | omega) [i64_in, u8_in, u64_in, vgd_t, vgd_f, wgd_t, wgd_f, i64_quo, u8_quo, Int.tmod_eq_emod_of_nonneg]; (repeat (refine ⟨(by first | omega | assumption), ?_⟩)); skip; refine ⟨by kernel_rfl, ?_⟩; (first | (refine hk _ ?_; clear hk; (try clear k)) | (clear hk; (try clear k); refine hk _ ?_; clear hk; (try clear k)) | (clear hk; (try clear k); clear hk; (try clear k); refine hk _ ?_; clear hk; (try clear k)) | (clear hk; (try clear k); clear hk; (try clear k); clear hk; (try clear k); refine hk _ ?_; clear hk; (try clear k)))) | (refine awp_cond rfl rfl (fun hc => ?_) (fun hc => ?_) <;> first | (exfalso; simp at hc; done) | (simp at hc) | skip) | (refine awp_skip ?_; (first | (refine hk _ ?_; clear hk; (try clear k)) | (clear hk; (try clear k); refine hk _ ?_; clear hk; (try clear k)) | (clear hk; (try clear k); clear hk; (try clear k); refine hk _ ?_; clear hk; (try clear k)) | (clear hk; (try clear k); clear hk; (try clear k); clear hk; (try clear k); refine hk _ ?_; clear hk; (try clear k)))) | (refine awp_ret ⟨.inr rfl, ?_⟩; (try simp [])) | (refine awp_seq' fun k hk => ?_) | (refine awp_block ?_))
  refine awp_for (fun q s => ∃ i : Nat, q = n.gates.length - i ∧ i ≤ n.gates.length ∧ s = ⟨[(9, tI .i64 i), (8, .c (.d (dB v))), (7, .c (.d (dB xs))), (6, .c (.ptr 96 0)), (5, tB true), (3, .c (.ptr 48 0))], [(96, .box false n.c_), (48, .box false z.c_)]⟩) (n.gates.length) (weak_mk (by simp) (by simp <;> first | exact lit rfl | exact .refl _ | exact .nil _) (by simp)) ⟨0, by simp, by simp, rfl⟩ ?_
  rintro q s ⟨i, rfl, hii, rfl⟩ kl hkl
  repeat' (first | ((first | refine awp_seq' fun k hk => awp_region (et := Try.et) Try.vtOK Try.etOK ?_ | refine awp_region (et := Try.et) Try.vtOK Try.etOK ?_); simp (maxSteps := 5000000) (disch := first | (intro _; intros; contradiction) | omega) [i64_in, u8_in, u64_in, vgd_t, vgd_f, wgd_t, wgd_f, i64_quo, u8_quo, Int.tmod_eq_emod_of_nonneg]; (repeat (refine ⟨(by first | omega | assumption), ?_⟩)); skip; (first | (refine hk _ ?_; clear hk; (try clear k)) | (clear hk; (try clear k); refine hk _ ?_; clear hk; (try clear k)) | (clear hk; (try clear k); clear hk; (try clear k); refine hk _ ?_; clear hk; (try clear k)) | (clear hk; (try clear k); clear hk; (try clear k); clear hk; (try clear k); refine hk _ ?_; clear hk; (try clear k)))) | ((first | refine awp_seq' fun k hk => awp_region_draw (et := Try.et) Try.mixed Try.vtOK Try.etOK ?_ | refine awp_region_draw (et := Try.et) Try.mixed Try.vtOK Try.etOK ?_); simp (maxSteps := 5000000) (disch := first | (intro _; intros; contradiction) | omega) [i64_in, u8_in, u64_in, vgd_t, vgd_f, wgd_t, wgd_f, i64_quo, u8_quo, Int.tmod_eq_emod_of_nonneg]; (repeat (refine ⟨(by first | omega | assumption), ?_⟩)); skip; refine ⟨by kernel_rfl, ?_⟩; (first | (refine hk _ ?_; clear hk; (try clear k)) | (clear hk; (try clear k); refine hk _ ?_; clear hk; (try clear k)) | (clear hk; (try clear k); clear hk; (try clear k); refine hk _ ?_; clear hk; (try clear k)) | (clear hk; (try clear k); clear hk; (try clear k); clear hk; (try clear k); refine hk _ ?_; clear hk; (try clear k)))) | (refine awp_cond rfl rfl (fun hc => ?_) (fun hc => ?_) <;> first | (exfalso; simp at hc; done) | (simp at hc) | skip) | (refine awp_skip ?_; (first | (refine hk _ ?_; clear hk; (try clear k)) | (clear hk; (try clear k); refine hk _ ?_; clear hk; (try clear k)) | (clear hk; (try clear k); clear hk; (try clear k); refine hk _ ?_; clear hk; (try clear k)) | (clear hk; (try clear k); clear hk; (try clear k); clear hk; (try clear k); refine hk _ ?_; clear hk; (try clear k)))) | (refine awp_ret ⟨.inr rfl, ?_⟩; (try simp [])) | (refine awp_seq' fun k hk => ?_) | (refine awp_block ?_))
  · have hgi := hok i hc
    have hgv := vg i hc
    have hge : n.gates[i]?.getD default = n.gates[i] := by simp [hc]
    rw [hge] at hgi hgv
    rw [List.getElem?_eq_getElem (by omega), Option.getD_some] at hgv
    generalize hgg : n.gates[i] = g at *
    have hgw : v[(2 + (xs.length : Int) + i).toNat]'(by omega) = gateV z.mems v g := by
      have h : (2 + (xs.length : Int) + i).toNat = 2 + xs.length + i := by omega
      simp only [h, hgv]
    repeat' (first | ((first | refine awp_seq' fun k hk => awp_region (et := Try.et) Try.vtOK Try.etOK ?_ | refine awp_region (et := Try.et) Try.vtOK Try.etOK ?_); simp (maxSteps := 5000000) (disch := first | (intro _; intros; contradiction) | omega) [i64_in, u8_in, u64_in, vgd_t, vgd_f, wgd_t, wgd_f, i64_quo, u8_quo, Int.tmod_eq_emod_of_nonneg, hgg, hgw]; (repeat (refine ⟨(by first | omega | assumption), ?_⟩)); (repeat ((first | refine vcall_fn rfl (by simp) (LeTs.refl _) (law22_operator_S g v z.mems (by omega) hz.mems (by rw [hvl]; exact hgi)) ?_); simp (maxSteps := 5000000) (disch := first | (intro _; intros; contradiction) | omega) [i64_in, u8_in, u64_in, vgd_t, vgd_f, wgd_t, wgd_f, i64_quo, u8_quo, Int.tmod_eq_emod_of_nonneg, hgg, hgw]; (repeat (refine ⟨(by first | omega | assumption), ?_⟩)))); (first | (refine hk _ ?_; clear hk; (try clear k)) | (clear hk; (try clear k); refine hk _ ?_; clear hk; (try clear k)) | (clear hk; (try clear k); clear hk; (try clear k); refine hk _ ?_; clear hk; (try clear k)) | (clear hk; (try clear k); clear hk; (try clear k); clear hk; (try clear k); refine hk _ ?_; clear hk; (try clear k)))) | ((first | refine awp_seq' fun k hk => awp_region_draw (et := Try.et) Try.mixed Try.vtOK Try.etOK ?_ | refine awp_region_draw (et := Try.et) Try.mixed Try.vtOK Try.etOK ?_); simp (maxSteps := 5000000) (disch := first | (intro _; intros; contradiction) | omega) [i64_in, u8_in, u64_in, vgd_t, vgd_f, wgd_t, wgd_f, i64_quo, u8_quo, Int.tmod_eq_emod_of_nonneg, hgg, hgw]; (repeat (refine ⟨(by first | omega | assumption), ?_⟩)); (repeat ((first | refine wcall_fn rfl (by simp) (LeTs.refl _) (law22_operator_S g v z.mems (by omega) hz.mems (by rw [hvl]; exact hgi)) ?_); simp (maxSteps := 5000000) (disch := first | (intro _; intros; contradiction) | omega) [i64_in, u8_in, u64_in, vgd_t, vgd_f, wgd_t, wgd_f, i64_quo, u8_quo, Int.tmod_eq_emod_of_nonneg, hgg, hgw]; (repeat (refine ⟨(by first | omega | assumption), ?_⟩)))); refine ⟨by kernel_rfl, ?_⟩; (first | (refine hk _ ?_; clear hk; (try clear k)) | (clear hk; (try clear k); refine hk _ ?_; clear hk; (try clear k)) | (clear hk; (try clear k); clear hk; (try clear k); refine hk _ ?_; clear hk; (try clear k)) | (clear hk; (try clear k); clear hk; (try clear k); clear hk; (try clear k); refine hk _ ?_; clear hk; (try clear k)))) | (refine awp_cond rfl rfl (fun hc => ?_) (fun hc => ?_) <;> first | (exfalso; simp at hc; done) | (simp at hc) | skip) | (refine awp_skip ?_; (first | (refine hk _ ?_; clear hk; (try clear k)) | (clear hk; (try clear k); refine hk _ ?_; clear hk; (try clear k)) | (clear hk; (try clear k); clear hk; (try clear k); refine hk _ ?_; clear hk; (try clear k)) | (clear hk; (try clear k); clear hk; (try clear k); clear hk; (try clear k); refine hk _ ?_; clear hk; (try clear k)))) | (refine awp_ret ⟨.inr rfl, ?_⟩; (try simp [hgg, hgw])) | (refine awp_seq' fun k hk => ?_) | (refine awp_block ?_))
    refine awp_region (et := Try.et) Try.vtOK Try.etOK ?_
    simp (maxSteps := 5000000) (disch := first | (intro _; intros; contradiction) | omega) [i64_in, u8_in, vgd_t, vgd_f, wgd_t, wgd_f]
    refine hkl _ _ _ (by omega) ⟨i + 1, rfl, by omega, rfl⟩ (weak_mk (by simp) ?_ (by simp)); (try simp)
  · refine awp_exit ?_; simp at hc ⊢; clear hkl; obtain rfl : i = n.gates.length := (by omega); (first | (refine hk _ ?_; clear hk; (try clear k)) | (clear hk; (try clear k); refine hk _ ?_; clear hk; (try clear k)) | (clear hk; (try clear k); clear hk; (try clear k); refine hk _ ?_; clear hk; (try clear k)) | (clear hk; (try clear k); clear hk; (try clear k); clear hk; (try clear k); refine hk _ ?_; clear hk; (try clear k)))
    repeat' (first | ((first | refine awp_seq' fun k hk => awp_region (et := Try.et) Try.vtOK Try.etOK ?_ | refine awp_region (et := Try.et) Try.vtOK Try.etOK ?_); simp (maxSteps := 5000000) (disch := first | (intro _; intros; contradiction) | omega) [i64_in, u8_in, u64_in, vgd_t, vgd_f, wgd_t, wgd_f, i64_quo, u8_quo, Int.tmod_eq_emod_of_nonneg]; (repeat (refine ⟨(by first | omega | assumption), ?_⟩)); skip; (first | (refine hk _ ?_; clear hk; (try clear k)) | (clear hk; (try clear k); refine hk _ ?_; clear hk; (try clear k)) | (clear hk; (try clear k); clear hk; (try clear k); refine hk _ ?_; clear hk; (try clear k)) | (clear hk; (try clear k); clear hk; (try clear k); clear hk; (try clear k); refine hk _ ?_; clear hk; (try clear k)))) | ((first | refine awp_seq' fun k hk => awp_region_draw (et := Try.et) Try.mixed Try.vtOK Try.etOK ?_ | refine awp_region_draw (et := Try.et) Try.mixed Try.vtOK Try.etOK ?_); simp (maxSteps := 5000000) (disch := first | (intro _; intros; contradiction) | omega) [i64_in, u8_in, u64_in, vgd_t, vgd_f, wgd_t, wgd_f, i64_quo, u8_quo, Int.tmod_eq_emod_of_nonneg]; (repeat (refine ⟨(by first | omega | assumption), ?_⟩)); skip; refine ⟨by kernel_rfl, ?_⟩; (first | (refine hk _ ?_; clear hk; (try clear k)) | (clear hk; (try clear k); refine hk _ ?_; clear hk; (try clear k)) | (clear hk; (try clear k); clear hk; (try clear k); refine hk _ ?_; clear hk; (try clear k)) | (clear hk; (try clear k); clear hk; (try clear k); clear hk; (try clear k); refine hk _ ?_; clear hk; (try clear k)))) | (refine awp_cond rfl rfl (fun hc => ?_) (fun hc => ?_) <;> first | (exfalso; simp at hc; done) | (simp at hc) | skip) | (refine awp_skip ?_; (first | (refine hk _ ?_; clear hk; (try clear k)) | (clear hk; (try clear k); refine hk _ ?_; clear hk; (try clear k)) | (clear hk; (try clear k); clear hk; (try clear k); refine hk _ ?_; clear hk; (try clear k)) | (clear hk; (try clear k); clear hk; (try clear k); clear hk; (try clear k); refine hk _ ?_; clear hk; (try clear k)))) | (refine awp_ret ⟨.inr rfl, ?_⟩; (try simp [])) | (refine awp_seq' fun k hk => ?_) | (refine awp_block ?_))
end Go.Proofs

/- NQ6: rows of data that come in, as lists. -/
namespace Go.Proofs
open Go.V

def LeDs (a b : List D) : Prop := a.length = b.length ∧ ∀ (q : Nat) u v, a[q]? = some u → b[q]? = some v → LeD u v
theorem LeDs.refl (a : List D) : LeDs a a := ⟨rfl, fun q u v hu hv => by rw [hu] at hv; injection hv with hv; subst hv; exact .refl _⟩
theorem LeDs.nil : LeDs [] [] := .refl _
theorem LeDs.cons {x y : D} {a b : List D} (h : LeD x y) (k : LeDs a b) : LeDs (x :: a) (y :: b) := ⟨by simp [k.1], fun q u v hu hv => by
  cases q with
  | zero => simp at hu hv; subst hu hv; exact h
  | succ q => exact k.2 q u v (by simpa using hu) (by simpa using hv)⟩
theorem fitsL_of : ∀ {ss : List Sh} {ds : List D}, ds.length = ss.length → (∀ (q : Nat) s d, ss[q]? = some s → ds[q]? = some d → Fits s d) → FitsL ss ds
  | [], [], _, _ => trivial
  | s :: ss, d :: ds, hl, h => ⟨h 0 s d rfl rfl, fitsL_of (by simpa using hl) fun q s d hs hd => h (q + 1) s d (by simpa using hs) (by simpa using hd)⟩
  | [], _ :: _, hl, _ => by simp at hl
  | _ :: _, [], hl, _ => by simp at hl
/-- A row whose elements can be said one by one. -/
theorem fits_row {α : Type} [Inhabited α] (c : α → List D) (P : α → Prop) {ss : List Sh} {n : Nat} {f : Nat → List D} (h : Fits (.slice ss) (.l n f)) (hs : ∀ ds, FitsL ss ds → ∃ y, LeDs ds (c y) ∧ P y) :
    ∃ l : List α, l.length = n ∧ n ≤ maxLen ∧ (∀ y ∈ l, P y) ∧ LeD (.l n f) (.l l.length (rF c l)) := by
  cases h with
  | slice hn hl h =>
    have hx : ∀ j, ∃ y : α, j < n → LeDs (f j) (c y) ∧ P y := fun j => by
      by_cases hj : j < n
      · obtain ⟨y, hy⟩ := hs (f j) (fitsL_of (hl j hj) fun q s d hs hd => h j q s d hj hs hd)
        exact ⟨y, fun _ => hy⟩
      · exact ⟨default, fun h => absurd h hj⟩
    obtain ⟨g, hg⟩ := Classical.axiomOfChoice hx
    refine ⟨(List.range n).map g, by simp, hn, fun y hy => ?_, ?_⟩
    · obtain ⟨j, hj, rfl⟩ := List.mem_map.1 hy
      exact (hg j (by simpa using hj)).2
    · rw [show ((List.range n).map g).length = n by simp]
      have e : ∀ j, j < n → rF c ((List.range n).map g) j = c (g j) := fun j hj => by simp [hj]
      exact .l (fun j hj => by rw [e j hj]; exact (hg j hj).1.1) fun j q u v hj hu hv => (hg j hj).1.2 q u v hu (by rw [← e j hj]; exact hv)
theorem u8_wf {b : Int} (h : (Lit.int .u8 b).wf = true) : 0 ≤ b ∧ b < 256 := by
  simp [Lit.wf, IntKind.min, IntKind.max, IntKind.signed, IntKind.bits] at h
  omega
theorem fits_u8s {n : Nat} {f : Nat → List D} (h : Fits (.slice [.int .u8]) (.l n f)) : ∃ l : List Int, l.length = n ∧ n ≤ maxLen ∧ (∀ b ∈ l, 0 ≤ b ∧ b < 256) ∧ LeD (.l n f) (dU l) :=
  fits_row (fun b : Int => [.s (.int .u8 b)]) (fun b => 0 ≤ b ∧ b < 256) h fun ds hd => by
    match ds, hd with
    | [d], hd =>
      obtain ⟨hd, _⟩ := hd
      cases hd with
      | @int _ b hw => exact ⟨b, .refl _, u8_wf hw⟩
theorem fits_i64s {n : Nat} {f : Nat → List D} (h : Fits (.slice [.int .i64]) (.l n f)) : ∃ l : List Int, l.length = n ∧ n ≤ maxLen ∧ LeD (.l n f) (dL l) := by
  obtain ⟨l, h1, h2, _, h3⟩ := fits_row (fun b : Int => [.s (.int .i64 b)]) (fun _ => True) h fun ds hd => by
    match ds, hd with
    | [d], hd =>
      obtain ⟨hd, _⟩ := hd
      cases hd with
      | @int _ b hw => exact ⟨b, .refl _, trivial⟩
  exact ⟨l, h1, h2, h3⟩
theorem fits_bools {n : Nat} {f : Nat → List D} (h : Fits (.slice [.bool]) (.l n f)) : ∃ l : List Bool, l.length = n ∧ n ≤ maxLen ∧ LeD (.l n f) (dB l) := by
  obtain ⟨l, h1, h2, _, h3⟩ := fits_row (fun b : Bool => [.s (.bool b)]) (fun _ => True) h fun ds hd => by
    match ds, hd with
    | [d], hd =>
      obtain ⟨hd, _⟩ := hd
      cases hd with
      | bool b => exact ⟨b, .refl _, trivial⟩
  exact ⟨l, h1, h2, h3⟩
theorem fits_heads {n : Nat} {f : Nat → List D} (h : Fits (.slice [.bool, .int .i64]) (.l n f)) : ∃ l : List (Bool × Int), l.length = n ∧ n ≤ maxLen ∧ LeD (.l n f) (dH l) := by
  obtain ⟨l, h1, h2, _, h3⟩ := fits_row (α := Bool × Int) (fun b => [.s (.bool b.1), .s (.int .i64 b.2)]) (fun _ => True) h fun ds hd => by
    match ds, hd with
    | [d, e], hd =>
      obtain ⟨hd, he, _⟩ := hd
      cases hd with
      | bool b => cases he with
        | @int _ v _ => exact ⟨(b, v), .refl _, trivial⟩
  exact ⟨l, h1, h2, h3⟩
theorem fits_lls {n : Nat} {f : Nat → List D} (h : Fits (.slice [.slice [.int .i64]]) (.l n f)) : ∃ l : List (List Int), l.length = n ∧ n ≤ maxLen ∧ (∀ m ∈ l, m.length ≤ maxLen) ∧ LeD (.l n f) (dLL l) :=
  fits_row (fun m : List Int => [dL m]) (fun m => m.length ≤ maxLen) h fun ds hd => by
    match ds, hd with
    | [d], hd =>
      obtain ⟨hd, _⟩ := hd
      cases hd with
      | @slice _ n f hn hl h =>
        obtain ⟨l, e1, e2, e3⟩ := fits_i64s (.slice hn hl h)
        exact ⟨l, .cons e3 .nil, by omega⟩
theorem fits_g5 {n : Nat} {f : Nat → List D} (h : Fits (.slice [.int .u8, .int .u8, .int .u8, .int .u8, .int .u8]) (.l n f)) : ∃ l : List G5, l.length = n ∧ n ≤ maxLen ∧ (∀ g ∈ l, u8 g.o ∧ u8 g.a ∧ u8 g.b ∧ u8 g.c ∧ u8 g.n) ∧ LeD (.l n f) (dG5 l) :=
  fits_row G5.c_ (fun g => u8 g.o ∧ u8 g.a ∧ u8 g.b ∧ u8 g.c ∧ u8 g.n) h fun ds hd => by
    match ds, hd with
    | [a, b, c, d, e], hd =>
      obtain ⟨ha, hb, hc, hd, he, _⟩ := hd
      cases ha with
      | @int _ a wa => cases hb with
        | @int _ b wb => cases hc with
          | @int _ c wc => cases hd with
            | @int _ d wd => cases he with
              | @int _ e we => exact ⟨⟨a, b, c, d, e⟩, .refl _, u8_wf wa, u8_wf wb, u8_wf wc, u8_wf wd, u8_wf we⟩
theorem fits_o4 {n : Nat} {f : Nat → List D} (h : Fits (.slice [.int .u8, .int .u8, .int .u8, .int .u8]) (.l n f)) : ∃ l : List O4, l.length = n ∧ n ≤ maxLen ∧ (∀ g ∈ l, u8 g.k ∧ u8 g.i ∧ u8 g.b ∧ u8 g.d) ∧ LeD (.l n f) (dO4 l) :=
  fits_row O4.c_ (fun g => u8 g.k ∧ u8 g.i ∧ u8 g.b ∧ u8 g.d) h fun ds hd => by
    match ds, hd with
    | [a, b, c, d], hd =>
      obtain ⟨ha, hb, hc, hd, _⟩ := hd
      cases ha with
      | @int _ a wa => cases hb with
        | @int _ b wb => cases hc with
          | @int _ c wc => cases hd with
            | @int _ d wd => exact ⟨⟨a, b, c, d⟩, .refl _, u8_wf wa, u8_wf wb, u8_wf wc, u8_wf wd⟩
end Go.Proofs

namespace Go.Proofs
open Go.V
set_option maxRecDepth 100000
set_option linter.unusedVariables false

theorem mx (n : Nat) (h : n ≤ maxLen) : n < 9223372036854775808 := by simp [maxLen] at h; omega
abbrev sh22 : List (List Sh) := [[.slice [.int .u8], .slice [.int .u8, .int .u8, .int .u8, .int .u8, .int .u8], .slice [.int .u8, .int .u8, .int .u8, .int .u8]], [.slice [.int .i64], .slice [.slice [.int .i64]], .slice [.bool, .int .i64], .slice [.bool], .slice [.int .u8], .int .i64, .int .i8, .int .i8]]
/-- The laws over a described net and odd data: from lists to what comes in. -/
theorem spec22 {f : FuncId} (H : ∀ (x : R22) (z : Od), x.fit → z.ok → FSpec Try.prog f [.agg x.c_, .agg z.c_] [] (tB true) []) (dss : List (List D))
    (h : FitsLL sh22 dss) : FSpec Try.prog f (tsOf Try.vt [59, 70] dss) [] (tB true) [] := by
  match dss, h with
  | [[a, b, c], [r, m, hd, ro, v, k, e0, e1]], h =>
    simp only [FitsLL, FitsL, and_true] at h
    obtain ⟨⟨ha, hb, hc⟩, hr, hm, hh, ho, hv, hk, he0, he1⟩ := h
    cases ha with
    | @slice _ na fa ga la ia => cases hb with
      | @slice _ nb fb gb lb ib => cases hc with
        | @slice _ nc fc gc lc ic => cases hr with
          | @slice _ nr fr gr lr ir => cases hm with
            | @slice _ nm fm gm lm im => cases hh with
              | @slice _ nh fh gh lh ih => cases ho with
                | @slice _ no fo go lo io => cases hv with
                  | @slice _ nv fv gv lv iv => cases hk with
                    | @int _ k _ => cases he0 with
                      | @int _ e0 _ => cases he1 with
                        | @int _ e1 _ =>
                          obtain ⟨xa, a1, a2, a3, a4⟩ := fits_u8s (.slice ga la ia)
                          obtain ⟨xb, b1, b2, b3, b4⟩ := fits_g5 (.slice gb lb ib)
                          obtain ⟨xc, c1, c2, c3, c4⟩ := fits_o4 (.slice gc lc ic)
                          obtain ⟨xr, r1, r2, r3⟩ := fits_i64s (.slice gr lr ir)
                          obtain ⟨xm, m1, m2, m3, m4⟩ := fits_lls (.slice gm lm im)
                          obtain ⟨xh, h1, h2, h3⟩ := fits_heads (.slice gh lh ih)
                          obtain ⟨xo, o1, o2, o3⟩ := fits_bools (.slice go lo io)
                          obtain ⟨xv, v1, v2, v3, v4⟩ := fits_u8s (.slice gv lv iv)
                          refine FSpec.le (H ⟨xa, xb, xc⟩ ⟨xr, xm, xh, xo, xv, k, e0, e1⟩ ⟨⟨a3, b3, c3⟩, by simp only; exact mx _ (by omega), by simp only; exact mx _ (by omega), by simp only; exact mx _ (by omega)⟩ ⟨by simp only; exact mx _ (by omega), by simp only; exact mx _ (by omega), by simp only; exact mx _ (by omega), by simp only; exact mx _ (by omega), by simp only; exact mx _ (by omega), fun q hq => mx _ (m3 q hq), v3⟩) ?_
                          simp [tsOf, tOf]
                          exact ⟨⟨a4, b4, c4⟩, r3, m4, h3, o3, v4⟩
end Go.Proofs
