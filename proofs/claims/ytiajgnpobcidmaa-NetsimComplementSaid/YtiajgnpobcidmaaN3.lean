/- NQ7: cones: what differs is reached; the places where lists differ. -/
import Derived.Test.YtiajgnpobcidmaaVa
import Derived.Test.YtiajgnpobcidmaaVb
import Derived.Test.YtiajgnpobcidmaaVc
import Derived.Test.YtiajgnpobcidmaaVd
import Derived.Test.YtiajgnpobcidmaaT
import Derived.Test.YtiajgnpobcidmaaN1
import Derived.Test.YtiajgnpobcidmaaN2
set_option linter.unusedSimpArgs false
set_option linter.unusedVariables false
namespace Go.Proofs
open Go.V IntWalk
set_option maxRecDepth 100000
set_option maxHeartbeats 8000000
set_option linter.unusedSimpArgs false
set_option linter.unusedVariables false

/-- Which nodes are reached. -/
def rcV (w : List Bool) (g : Ga) : Bool := w[g.a.toNat]?.getD false || decide (1 < arI g.op) && w[g.b.toNat]?.getD false || decide (2 < arI g.op) && w[g.c.toNat]?.getD false
def rcI (gs : List Ga) (w : List Bool) : Nat → List Bool
  | 0 => w
  | i + 1 => rcI gs w i ++ [rcV (rcI gs w i) (gs[i]?.getD default)]
theorem rcI_length (gs : List Ga) (w : List Bool) : ∀ i, (rcI gs w i).length = w.length + i
  | 0 => rfl
  | i + 1 => by simp [rcI, rcI_length gs w i]; omega
def rc0 (nin kk : Nat) : List Bool := (List.replicate (2 + nin) false).set (2 + kk) true

theorem law22_reached_S (n : Nt) (kk : Nat) (hk0 : kk < n.ins.length) (hi : n.ins.length < 1000000) (hg : n.gates.length < 1000000) (ok : ∀ i < n.gates.length, (n.gates[i]?.getD default).ok (2 + n.ins.length + i)) :
    FSpec Try.prog 52 [.agg n.c_, tI .i64 kk] [] (.c (.d (dB (rcI n.gates (rc0 n.ins.length kk) n.gates.length)))) [] := by
  have h0l : (rc0 n.ins.length kk).length = 2 + n.ins.length := by simp [rc0]
  refine fspec_intro Try.func52 (by kernel_rfl) rfl Try.vtOK rfl Try.ntmps52 (by simp) ?_
  repeat' (first | ((first | refine awp_seq' fun k hk => awp_region (et := Try.et) Try.vtOK Try.etOK ?_ | refine awp_region (et := Try.et) Try.vtOK Try.etOK ?_); simp (maxSteps := 5000000) (disch := first | (intro _; intros; contradiction) | omega) [i64_in, u8_in, u64_in, vgd_t, vgd_f, wgd_t, wgd_f, i64_quo, u8_quo, Int.tmod_eq_emod_of_nonneg]; (repeat (refine ⟨(by first | omega | assumption), ?_⟩)); skip; (first | (refine hk _ ?_; clear hk; (try clear k)) | (clear hk; (try clear k); refine hk _ ?_; clear hk; (try clear k)) | (clear hk; (try clear k); clear hk; (try clear k); refine hk _ ?_; clear hk; (try clear k)) | (clear hk; (try clear k); clear hk; (try clear k); clear hk; (try clear k); refine hk _ ?_; clear hk; (try clear k)))) | ((first | refine awp_seq' fun k hk => awp_region_draw (et := Try.et) Try.mixed Try.vtOK Try.etOK ?_ | refine awp_region_draw (et := Try.et) Try.mixed Try.vtOK Try.etOK ?_); simp (maxSteps := 5000000) (disch := first | (intro _; intros; contradiction) | omega) [i64_in, u8_in, u64_in, vgd_t, vgd_f, wgd_t, wgd_f, i64_quo, u8_quo, Int.tmod_eq_emod_of_nonneg]; (repeat (refine ⟨(by first | omega | assumption), ?_⟩)); skip; refine ⟨by kernel_rfl, ?_⟩; (first | (refine hk _ ?_; clear hk; (try clear k)) | (clear hk; (try clear k); refine hk _ ?_; clear hk; (try clear k)) | (clear hk; (try clear k); clear hk; (try clear k); refine hk _ ?_; clear hk; (try clear k)) | (clear hk; (try clear k); clear hk; (try clear k); clear hk; (try clear k); refine hk _ ?_; clear hk; (try clear k)))) | (refine awp_cond rfl rfl (fun hc => ?_) (fun hc => ?_) <;> first | (exfalso; simp at hc; done) | (simp at hc) | skip) | (refine awp_skip ?_; (first | (refine hk _ ?_; clear hk; (try clear k)) | (clear hk; (try clear k); refine hk _ ?_; clear hk; (try clear k)) | (clear hk; (try clear k); clear hk; (try clear k); refine hk _ ?_; clear hk; (try clear k)) | (clear hk; (try clear k); clear hk; (try clear k); clear hk; (try clear k); refine hk _ ?_; clear hk; (try clear k)))) | (refine awp_ret ⟨.inr rfl, ?_⟩; (try simp [])) | (refine awp_seq' fun k hk => ?_) | (refine awp_block ?_))
  have e2 : (2 + (n.ins.length : Int)).toNat = 2 + n.ins.length := by omega
  have e3 : (2 + (kk : Int)).toNat = 2 + kk := by omega
  rw [e2, e3]
  generalize hw : rc0 n.ins.length kk = w at *
  refine awp_for (fun q s => ∃ i : Nat, q = n.gates.length - i ∧ i ≤ n.gates.length ∧ s = ⟨[(6, tI .i64 i), (5, .c (.row 208 (2 + n.ins.length + i))), (2, .c (.ptr 32 0))], [(208, .row false 4 1 (2 + n.ins.length + i) (bF (rcI n.gates w i))), (32, .box false n.c_)]⟩) n.gates.length (weak_mk (by simp) ?_ (by simp)) ⟨0, by simp, by simp, rfl⟩ ?_
  · simp [rcI]
    refine LeD.ext fun j hj => ?_
    rw [← hw]
    by_cases e : j = 2 + kk
    · subst e; simp [rc0, hj]
    · have e' : 2 + kk ≠ j := fun h => e h.symm
      simp [rc0, e, List.getElem?_set, e', hj]
  rintro q s ⟨i, rfl, hi', rfl⟩ kl hkl
  repeat' (first | ((first | refine awp_seq' fun k hk => awp_region (et := Try.et) Try.vtOK Try.etOK ?_ | refine awp_region (et := Try.et) Try.vtOK Try.etOK ?_); simp (maxSteps := 5000000) (disch := first | (intro _; intros; contradiction) | omega) [i64_in, u8_in, u64_in, vgd_t, vgd_f, wgd_t, wgd_f, i64_quo, u8_quo, Int.tmod_eq_emod_of_nonneg]; (repeat (refine ⟨(by first | omega | assumption), ?_⟩)); skip; (first | (refine hk _ ?_; clear hk; (try clear k)) | (clear hk; (try clear k); refine hk _ ?_; clear hk; (try clear k)) | (clear hk; (try clear k); clear hk; (try clear k); refine hk _ ?_; clear hk; (try clear k)) | (clear hk; (try clear k); clear hk; (try clear k); clear hk; (try clear k); refine hk _ ?_; clear hk; (try clear k)))) | ((first | refine awp_seq' fun k hk => awp_region_draw (et := Try.et) Try.mixed Try.vtOK Try.etOK ?_ | refine awp_region_draw (et := Try.et) Try.mixed Try.vtOK Try.etOK ?_); simp (maxSteps := 5000000) (disch := first | (intro _; intros; contradiction) | omega) [i64_in, u8_in, u64_in, vgd_t, vgd_f, wgd_t, wgd_f, i64_quo, u8_quo, Int.tmod_eq_emod_of_nonneg]; (repeat (refine ⟨(by first | omega | assumption), ?_⟩)); skip; refine ⟨by kernel_rfl, ?_⟩; (first | (refine hk _ ?_; clear hk; (try clear k)) | (clear hk; (try clear k); refine hk _ ?_; clear hk; (try clear k)) | (clear hk; (try clear k); clear hk; (try clear k); refine hk _ ?_; clear hk; (try clear k)) | (clear hk; (try clear k); clear hk; (try clear k); clear hk; (try clear k); refine hk _ ?_; clear hk; (try clear k)))) | (refine awp_cond rfl rfl (fun hc => ?_) (fun hc => ?_) <;> first | (exfalso; simp at hc; done) | (simp at hc) | skip) | (refine awp_skip ?_; (first | (refine hk _ ?_; clear hk; (try clear k)) | (clear hk; (try clear k); refine hk _ ?_; clear hk; (try clear k)) | (clear hk; (try clear k); clear hk; (try clear k); refine hk _ ?_; clear hk; (try clear k)) | (clear hk; (try clear k); clear hk; (try clear k); clear hk; (try clear k); refine hk _ ?_; clear hk; (try clear k)))) | (refine awp_ret ⟨.inr rfl, ?_⟩; (try simp [])) | (refine awp_seq' fun k hk => ?_) | (refine awp_block ?_))
  · have hgo := ok i hc
    have hl := rcI_length n.gates w i
    rw [h0l] at hl
    have hs : rcI n.gates w (i + 1) = rcI n.gates w i ++ [rcV (rcI n.gates w i) (n.gates[i]?.getD default)] := rfl
    have hge : n.gates[i]?.getD default = n.gates[i] := by simp [hc]
    rw [hge] at hgo hs
    generalize rcI n.gates w i = v at *
    generalize hgg : n.gates[i] = g at *
    obtain ⟨g1, g2, g3, g4, g5, g6, g7, g8, g9, g10⟩ := hgo
    have hvl : v.length = 2 + n.ins.length + i := by omega
    have lA : g.a.toNat < v.length := by omega
    have lB : g.b.toNat < v.length := by omega
    have lC : g.c.toNat < v.length := by omega
    obtain ⟨va, eA⟩ : ∃ va, v[g.a.toNat] = va := ⟨_, rfl⟩
    obtain ⟨vb, eB⟩ : ∃ vb, v[g.b.toNat] = vb := ⟨_, rfl⟩
    obtain ⟨vc, eC⟩ : ∃ vc, v[g.c.toNat] = vc := ⟨_, rfl⟩
    have hA : v[g.a.toNat]?.getD false = va := by simp [lA, eA]
    have hB : v[g.b.toNat]?.getD false = vb := by simp [lB, eB]
    have hC : v[g.c.toNat]?.getD false = vc := by simp [lC, eC]
    obtain ⟨m, hm⟩ : ∃ m, arI g.op = m := ⟨_, rfl⟩
    have hm3 : m = 1 ∨ m = 2 ∨ m = 3 := by rw [← hm]; unfold arI; split <;> (try split) <;> (try split) <;> omega
    have hv : rcV v g = (va || decide (1 < m) && vb || decide (2 < m) && vc) := by simp [rcV, hA, hB, hC, hm]
    have ca := ref21_Arity_S g.op
    rw [hm] at ca
    rw [hv] at hs
    clear hl
    rcases hm3 with rfl | rfl | rfl <;> cases va <;> cases vb <;> cases vc
    all_goals
      repeat' (first | ((first | refine awp_seq' fun k hk => awp_region (et := Try.et) Try.vtOK Try.etOK ?_ | refine awp_region (et := Try.et) Try.vtOK Try.etOK ?_); simp (maxSteps := 5000000) (disch := first | (intro _; intros; contradiction) | omega) [i64_in, u8_in, u64_in, vgd_t, vgd_f, wgd_t, wgd_f, i64_quo, u8_quo, Int.tmod_eq_emod_of_nonneg, hgg, hA, hB, hC, eA, eB, eC]; (repeat (refine ⟨(by first | omega | assumption), ?_⟩)); (repeat ((first | refine vcall_fn rfl (by simp) (LeTs.refl _) (ca) ?_); simp (maxSteps := 5000000) (disch := first | (intro _; intros; contradiction) | omega) [i64_in, u8_in, u64_in, vgd_t, vgd_f, wgd_t, wgd_f, i64_quo, u8_quo, Int.tmod_eq_emod_of_nonneg, hgg, hA, hB, hC, eA, eB, eC]; (repeat (refine ⟨(by first | omega | assumption), ?_⟩)))); (first | (refine hk _ ?_; clear hk; (try clear k)) | (clear hk; (try clear k); refine hk _ ?_; clear hk; (try clear k)) | (clear hk; (try clear k); clear hk; (try clear k); refine hk _ ?_; clear hk; (try clear k)) | (clear hk; (try clear k); clear hk; (try clear k); clear hk; (try clear k); refine hk _ ?_; clear hk; (try clear k)))) | ((first | refine awp_seq' fun k hk => awp_region_draw (et := Try.et) Try.mixed Try.vtOK Try.etOK ?_ | refine awp_region_draw (et := Try.et) Try.mixed Try.vtOK Try.etOK ?_); simp (maxSteps := 5000000) (disch := first | (intro _; intros; contradiction) | omega) [i64_in, u8_in, u64_in, vgd_t, vgd_f, wgd_t, wgd_f, i64_quo, u8_quo, Int.tmod_eq_emod_of_nonneg, hgg, hA, hB, hC, eA, eB, eC]; (repeat (refine ⟨(by first | omega | assumption), ?_⟩)); (repeat ((first | refine wcall_fn rfl (by simp) (LeTs.refl _) (ca) ?_); simp (maxSteps := 5000000) (disch := first | (intro _; intros; contradiction) | omega) [i64_in, u8_in, u64_in, vgd_t, vgd_f, wgd_t, wgd_f, i64_quo, u8_quo, Int.tmod_eq_emod_of_nonneg, hgg, hA, hB, hC, eA, eB, eC]; (repeat (refine ⟨(by first | omega | assumption), ?_⟩)))); refine ⟨by kernel_rfl, ?_⟩; (first | (refine hk _ ?_; clear hk; (try clear k)) | (clear hk; (try clear k); refine hk _ ?_; clear hk; (try clear k)) | (clear hk; (try clear k); clear hk; (try clear k); refine hk _ ?_; clear hk; (try clear k)) | (clear hk; (try clear k); clear hk; (try clear k); clear hk; (try clear k); refine hk _ ?_; clear hk; (try clear k)))) | (refine awp_cond rfl rfl (fun hc => ?_) (fun hc => ?_) <;> first | (exfalso; simp at hc; done) | (simp at hc) | skip) | (refine awp_skip ?_; (first | (refine hk _ ?_; clear hk; (try clear k)) | (clear hk; (try clear k); refine hk _ ?_; clear hk; (try clear k)) | (clear hk; (try clear k); clear hk; (try clear k); refine hk _ ?_; clear hk; (try clear k)) | (clear hk; (try clear k); clear hk; (try clear k); clear hk; (try clear k); refine hk _ ?_; clear hk; (try clear k)))) | (refine awp_ret ⟨.inr rfl, ?_⟩; (try simp [hgg, hA, hB, hC, eA, eB, eC])) | (refine awp_seq' fun k hk => ?_) | (refine awp_block ?_))
      refine awp_region (et := Try.et) Try.vtOK Try.etOK ?_
      simp (maxSteps := 5000000) (disch := first | (intro _; intros; contradiction) | omega) [i64_in, u8_in, vgd_t, vgd_f, wgd_t, wgd_f]
      refine hkl _ _ _ (by omega) ⟨i + 1, rfl, by omega, rfl⟩ (weak_mk (by simp [Nat.add_assoc]) ?_ (by simp))
      simp at hs
      simp [hs, Nat.add_assoc]
      exact appBF (2 + (n.ins.length + i)) v _ (by omega)
  · refine awp_exit ?_
    simp at hc ⊢
    obtain rfl : i = n.gates.length := by omega
    (first | (refine hk _ ?_; clear hk; (try clear k)) | (clear hk; (try clear k); refine hk _ ?_; clear hk; (try clear k)) | (clear hk; (try clear k); clear hk; (try clear k); refine hk _ ?_; clear hk; (try clear k)) | (clear hk; (try clear k); clear hk; (try clear k); clear hk; (try clear k); refine hk _ ?_; clear hk; (try clear k)))
    repeat' (first | ((first | refine awp_seq' fun k hk => awp_region (et := Try.et) Try.vtOK Try.etOK ?_ | refine awp_region (et := Try.et) Try.vtOK Try.etOK ?_); simp (maxSteps := 5000000) (disch := first | (intro _; intros; contradiction) | omega) [i64_in, u8_in, u64_in, vgd_t, vgd_f, wgd_t, wgd_f, i64_quo, u8_quo, Int.tmod_eq_emod_of_nonneg]; (repeat (refine ⟨(by first | omega | assumption), ?_⟩)); skip; (first | (refine hk _ ?_; clear hk; (try clear k)) | (clear hk; (try clear k); refine hk _ ?_; clear hk; (try clear k)) | (clear hk; (try clear k); clear hk; (try clear k); refine hk _ ?_; clear hk; (try clear k)) | (clear hk; (try clear k); clear hk; (try clear k); clear hk; (try clear k); refine hk _ ?_; clear hk; (try clear k)))) | ((first | refine awp_seq' fun k hk => awp_region_draw (et := Try.et) Try.mixed Try.vtOK Try.etOK ?_ | refine awp_region_draw (et := Try.et) Try.mixed Try.vtOK Try.etOK ?_); simp (maxSteps := 5000000) (disch := first | (intro _; intros; contradiction) | omega) [i64_in, u8_in, u64_in, vgd_t, vgd_f, wgd_t, wgd_f, i64_quo, u8_quo, Int.tmod_eq_emod_of_nonneg]; (repeat (refine ⟨(by first | omega | assumption), ?_⟩)); skip; refine ⟨by kernel_rfl, ?_⟩; (first | (refine hk _ ?_; clear hk; (try clear k)) | (clear hk; (try clear k); refine hk _ ?_; clear hk; (try clear k)) | (clear hk; (try clear k); clear hk; (try clear k); refine hk _ ?_; clear hk; (try clear k)) | (clear hk; (try clear k); clear hk; (try clear k); clear hk; (try clear k); refine hk _ ?_; clear hk; (try clear k)))) | (refine awp_cond rfl rfl (fun hc => ?_) (fun hc => ?_) <;> first | (exfalso; simp at hc; done) | (simp at hc) | skip) | (refine awp_skip ?_; (first | (refine hk _ ?_; clear hk; (try clear k)) | (clear hk; (try clear k); refine hk _ ?_; clear hk; (try clear k)) | (clear hk; (try clear k); clear hk; (try clear k); refine hk _ ?_; clear hk; (try clear k)) | (clear hk; (try clear k); clear hk; (try clear k); clear hk; (try clear k); refine hk _ ?_; clear hk; (try clear k)))) | (refine awp_ret ⟨.inr rfl, ?_⟩; (try simp [])) | (refine awp_seq' fun k hk => ?_) | (refine awp_block ?_))
    have hl := rcI_length n.gates w n.gates.length
    rw [h0l] at hl
    rw [← hl]
    exact .refl _
end Go.Proofs

/- NQ7: cones: what differs is reached; the places where lists differ. -/
namespace Go.Proofs
open Go.V

theorem arI_1 {op : Int} (h : 1 ≤ op ∧ op ≤ 7) : 1 < arI op ↔ op ≠ 1 := by
  rcases (by omega : op = 1 ∨ op = 2 ∨ op = 3 ∨ op = 4 ∨ op = 5 ∨ op = 6 ∨ op = 7) with rfl | rfl | rfl | rfl | rfl | rfl | rfl <;> decide
theorem arI_2 {op : Int} (h : 1 ≤ op ∧ op ≤ 7) : 2 < arI op ↔ 5 ≤ op := by
  rcases (by omega : op = 1 ∨ op = 2 ∨ op = 3 ∨ op = 4 ∨ op = 5 ∨ op = 6 ∨ op = 7) with rfl | rfl | rfl | rfl | rfl | rfl | rfl <;> decide
theorem cone {gs : List Ga} {ms : List (List Int)} {V W on : List Bool} {m : Nat} (hV : V.length = m) (hW : W.length = m) (hO : on.length = m) (h0 : ∀ j, j < m → V[j]?.getD false ≠ W[j]?.getD false → on[j]?.getD false = true)
    (ok : ∀ i, i < gs.length → (gs[i]?.getD default).ok (m + i)) : ∀ n, n ≤ gs.length → ∀ j, j < m + n → (evI gs ms V n)[j]?.getD false ≠ (evI gs ms W n)[j]?.getD false → (rcI gs on n)[j]?.getD false = true
  | 0, _, j, hj, hne => h0 j (by omega) hne
  | n + 1, hn, j, hj, hne => by
    have ih := cone (ms := ms) hV hW hO h0 ok n (by omega)
    have lv := evI_length gs ms V n
    have lw := evI_length gs ms W n
    have lo := rcI_length gs on n
    simp only [evI, rcI] at hne ⊢
    by_cases e : j < m + n
    · rw [List.getElem?_append_left (by omega), List.getElem?_append_left (by omega)] at hne
      rw [List.getElem?_append_left (by omega)]
      exact ih j e hne
    · have : j = m + n := by omega
      subst this
      rw [List.getElem?_append_right (by omega), List.getElem?_append_right (by omega)] at hne
      rw [List.getElem?_append_right (by omega)]
      simp only [lv, lw, lo, hV, hW, hO, Nat.sub_self, List.getElem?_cons_zero, Option.getD_some] at hne ⊢
      obtain ⟨g1, g2, g3, g4, g5, g6, g7, g8, g9, g10⟩ := ok n (by omega)
      generalize gs[n]?.getD default = g at *
      cases hr : rcV (rcI gs on n) g with
      | true => rfl
      | false =>
        exfalso
        simp only [rcV, Bool.or_eq_false_iff, Bool.and_eq_false_iff, decide_eq_false_iff_not] at hr
        obtain ⟨⟨ra, rb⟩, rc⟩ := hr
        have key : ∀ x : Int, 0 ≤ x → x < ((m + n : Nat) : Int) → (rcI gs on n)[x.toNat]?.getD false = false → (evI gs ms V n)[x.toNat]?.getD false = (evI gs ms W n)[x.toNat]?.getD false := fun x h1 h2 h3 => by
          apply Classical.byContradiction
          intro h
          have := ih x.toNat (by omega) h
          rw [h3] at this
          cases this
        refine hne (gateV_congr (key _ g3 g4 ra) (fun h => ?_) (fun h => ?_) ⟨g1, g2⟩)
        · rcases rb with rb | rb
          · exact absurd ((arI_1 ⟨g1, g2⟩).2 h) rb
          · exact key _ g5 g6 rb
        · rcases rc with rc | rc
          · exact absurd ((arI_2 ⟨g1, g2⟩).2 h) rc
          · exact key _ g7 g8 rc

theorem difI_comm (a b : List Bool) : ∀ n, difI a b n = difI b a n
  | 0 => rfl
  | n + 1 => by
    simp only [difI, difI_comm a b n]
    by_cases h : a[n]?.getD false = b[n]?.getD false
    · rw [if_pos h, if_pos h.symm]
    · rw [if_neg h, if_neg fun e => h e.symm]
theorem difI_split (a b : List Bool) (i : Nat) : ∀ n, i ≤ n → ∃ r, difI a b n = difI a b i ++ r ∧ ∀ x ∈ r, (i : Int) ≤ x
  | 0, h => ⟨[], by rw [show i = 0 by omega]; simp, fun x hx => by cases hx⟩
  | n + 1, h => by
    by_cases e : i = n + 1
    · subst e; exact ⟨[], by simp, fun x hx => by cases hx⟩
    · obtain ⟨r, h1, h2⟩ := difI_split a b i n (by omega)
      simp only [difI]
      split
      · exact ⟨r, h1, h2⟩
      · refine ⟨r ++ [(n : Int)], by rw [h1, List.append_assoc], fun x hx => ?_⟩
        rcases List.mem_append.1 hx with hx | hx
        · exact h2 x hx
        · simp at hx; omega
/-- Where they differ, the list has the place next. -/
theorem difI_ne {a b : List Bool} {i n : Nat} (h : i < n) (hne : a[i]?.getD false ≠ b[i]?.getD false) : (difI a b i).length < (difI a b n).length ∧ (difI a b n)[(difI a b i).length]?.getD 0 = i ∧ (difI a b (i + 1)).length = (difI a b i).length + 1 := by
  have e : difI a b (i + 1) = difI a b i ++ [(i : Int)] := by simp only [difI]; rw [if_neg hne]
  obtain ⟨r, h1, _⟩ := difI_split a b (i + 1) n h
  rw [h1, e]
  refine ⟨by simp, ?_, by simp⟩
  rw [List.append_assoc, List.getElem?_append_right (Nat.le_refl _)]
  simp
theorem difI_eq {a b : List Bool} {i n : Nat} (h : i < n) (heq : a[i]?.getD false = b[i]?.getD false) : ((difI a b i).length < (difI a b n).length → (difI a b n)[(difI a b i).length]?.getD 0 ≠ i) ∧ (difI a b (i + 1)).length = (difI a b i).length := by
  have e : difI a b (i + 1) = difI a b i := by simp only [difI]; rw [if_pos heq]
  obtain ⟨r, h1, h2⟩ := difI_split a b (i + 1) n h
  rw [e] at h1
  refine ⟨fun hl => ?_, by rw [e]⟩
  rw [h1, List.getElem?_append_right (Nat.le_refl _)]
  have hr : 0 < r.length := by rw [h1] at hl; simp at hl; omega
  match r, hr, h2 with
  | x :: r, _, h2 =>
    have := h2 x (by simp)
    simp
    omega
theorem set_set_not (xs : List Bool) (kk : Nat) (h : kk < xs.length) : (xs.set kk (!xs[kk]?.getD false)).set kk (!(xs.set kk (!xs[kk]?.getD false))[kk]?.getD false) = xs := by
  apply List.ext_getElem?
  intro j
  by_cases e : kk = j
  · subst e
    simp [h]
  · simp [e]
end Go.Proofs

namespace Go.Proofs
open Go.V IntWalk
set_option maxRecDepth 100000
set_option maxHeartbeats 8000000
set_option linter.unusedSimpArgs false
set_option linter.unusedVariables false

theorem law22_NetsimCones_S (x : R22) (z : Od) (hx : x.fit) (hz : z.ok) : FSpec Try.prog 11 [.agg x.c_, .agg z.c_] [] (tB true) [] := by
  obtain ⟨okx, okw, hgl⟩ := madeN_okX x hx.ok
  have hI := mkI_len x
  rw [← madeN_ins x] at okx hI
  have cm := ref22_Made_S x hx.ok hx.ins hx.gates hx.outs
  generalize madeN x = n at *
  have cb := ref22_Bools_S n.ins.length z.v (by omega) hz.v hz.u8
  have hbl := boolsI_len z.v n.ins.length
  generalize boolsI z.v n.ins.length = xs at *
  obtain ⟨kk, hkk⟩ : ∃ kk : Nat, (kk : Int) = z.kk % 256 % xs.length := ⟨(z.kk % 256 % xs.length).toNat, by have := Int.emod_nonneg (z.kk % 256) (b := xs.length) (by omega); omega⟩
  have hkl : kk < xs.length := by have := Int.emod_lt_of_pos (z.kk % 256) (b := xs.length) (by omega); omega
  have ci := ref22_Inverted_S xs kk hkl (by omega)
  have e0 := set_set_not xs kk hkl
  have cs := netsim_Sensitive_S n xs z.mems kk hbl (by omega) hz.mems (by rw [hbl]; exact okx)
  have cs2 := netsim_Sensitive_S n (xs.set kk (!xs[kk]?.getD false)) z.mems kk (by simpa using hbl) (by omega) hz.mems (by simp [hbl]; exact okx)
  rw [e0] at cs2
  have okg := okx.2.2.2.2.1
  have okd := okx.2.2.2.2.2
  have cr := law22_reached_S n kk (by omega) (by omega) (by omega) okg
  have ce := netsim_Eval_S n xs z.mems (by omega) (by omega) hz.mems (by rw [hbl]; exact okg)
  have ce2 := netsim_Eval_S n (xs.set kk (!xs[kk]?.getD false)) z.mems (by simp; omega) (by omega) hz.mems (by simp [hbl]; exact okg)
  have hcone := fun j hj => cone (gs := n.gates) (ms := z.mems) (V := false :: true :: xs) (W := false :: true :: xs.set kk (!xs[kk]?.getD false)) (on := rc0 n.ins.length kk) (m := 2 + n.ins.length) (by simp; omega) (by simp; omega) (by simp [rc0]) (fun j hj hne => by
    match j, hj, hne with
    | 0, hj, hne => simp at hne
    | 1, hj, hne => simp at hne
    | j + 2, hj, hne =>
      by_cases e : j = kk
      · subst e
        have hlt : 2 + j < 2 + n.ins.length := by omega
        rw [show j + 2 = 2 + j by omega]
        simp [rc0, show j < n.ins.length by omega]
      · have e' : kk ≠ j := fun h => e h.symm
        simp [e'] at hne) okg n.gates.length (Nat.le_refl _) j hj
  have hvl : (n.vals xs z.mems).length = 2 + n.ins.length + n.gates.length := by unfold Nt.vals; rw [evI_length]; simp; omega
  have hwl : (n.vals (xs.set kk (!xs[kk]?.getD false)) z.mems).length = 2 + n.ins.length + n.gates.length := by unfold Nt.vals; rw [evI_length]; simp; omega
  have hol : (rcI n.gates (rc0 n.ins.length kk) n.gates.length).length = 2 + n.ins.length + n.gates.length := by rw [rcI_length]; simp [rc0]
  rw [show evI n.gates z.mems (false :: true :: xs) n.gates.length = n.vals xs z.mems from rfl] at *
  rw [show evI n.gates z.mems (false :: true :: xs.set kk (!xs[kk]?.getD false)) n.gates.length = n.vals (xs.set kk (!xs[kk]?.getD false)) z.mems from rfl] at *
  have hol2 : (xs.set kk (!xs[kk]?.getD false)).length = xs.length := by simp
  generalize xs.set kk (!xs[kk]?.getD false) = ys at *
  generalize n.vals xs z.mems = v at *
  generalize n.vals ys z.mems = w at *
  generalize rcI n.gates (rc0 n.ins.length kk) n.gates.length = on at *
  have hdl : (drB v n.drive).length = n.drive.length := by simp [drB]
  have hdb : ∀ (u : List Bool) i, i < n.drive.length → (drB u n.drive)[i]?.getD false = u[(n.drive[i]?.getD 0).toNat]?.getD false := fun u i hi => by simp [drB, hi]
  rw [difI_comm (drB w n.drive)] at cs2
  have hll := difI_len (drB v n.drive) (drB w n.drive) n.drive.length
  have hne := fun i hi h => difI_ne (a := drB v n.drive) (b := drB w n.drive) (i := i) (n := n.drive.length) hi h
  have heq := fun i hi h => difI_eq (a := drB v n.drive) (b := drB w n.drive) (i := i) (n := n.drive.length) hi h
  have hdn := okx.2.1
  obtain ⟨c, hc0⟩ : ∃ c : Nat → Nat, c = fun i => (difI (drB v n.drive) (drB w n.drive) i).length := ⟨_, rfl⟩
  have hc1 : ∀ i, (difI (drB v n.drive) (drB w n.drive) i).length = c i := fun i => by rw [hc0]
  have hcz : c 0 = 0 := by rw [hc0]; rfl
  simp only [hc1] at hne heq
  have hlc := hc1 n.drive.length
  generalize difI (drB v n.drive) (drB w n.drive) n.drive.length = l at *
  clear hc1 hc0
  have ct := ref12_Ints_S l l (by omega) (by omega)
  simp only [beq_self_eq_true] at ct
  refine fspec_intro Try.func11 (by kernel_rfl) rfl Try.vtOK rfl Try.ntmps11 (by simp) ?_
  have hx0 : ¬ xs = [] := fun h => by rw [h] at hbl; simp at hbl; omega
  have hq1 : ((v.length : Int) != on.length) = false := by simp; omega
  have hq2 : ((w.length : Int) != on.length) = false := by simp; omega
  repeat' (first | ((first | refine awp_seq' fun k hk => awp_region (et := Try.et) Try.vtOK Try.etOK ?_ | refine awp_region (et := Try.et) Try.vtOK Try.etOK ?_); simp (maxSteps := 5000000) (disch := first | (intro _; intros; contradiction) | omega) [i64_in, u8_in, u64_in, vgd_t, vgd_f, wgd_t, wgd_f, i64_quo, u8_quo, Int.tmod_eq_emod_of_nonneg, andV_255, ← hkk, hq1, hq2]; (repeat (refine ⟨(by first | omega | assumption), ?_⟩)); (repeat ((first | refine vcall_fn rfl (by simp) (LeTs.refl _) (law22_examples_S) ?_ | refine vcall_fn rfl (by simp) (LeTs.refl _) (law22_little_S z.regs z.mems z.heads z.rooms z.v z.kk z.e0 z.e1 hz.regs hz.mems hz.heads hz.rooms hz.v hz.ml) ?_ | refine vcall_fn rfl (by simp) (LeTs.refl _) (cm) ?_ | refine vcall_fn rfl (by simp) (LeTs.refl _) (cb) ?_ | refine vcall_fn rfl (by simp) (LeTs.refl _) (ci) ?_ | refine vcall_fn rfl (by simp) (LeTs.refl _) (cs) ?_ | refine vcall_fn rfl (by simp) (LeTs.refl _) (ce) ?_ | refine vcall_fn rfl (by simp) (LeTs.refl _) (ce2) ?_ | refine vcall_fn rfl (by simp) (LeTs.refl _) (cr) ?_ | refine vcall_fn rfl (by simp) (LeTs.refl _) (cs2) ?_ | refine vcall_fn rfl (by simp) (LeTs.refl _) (ct) ?_); simp (maxSteps := 5000000) (disch := first | (intro _; intros; contradiction) | omega) [i64_in, u8_in, u64_in, vgd_t, vgd_f, wgd_t, wgd_f, i64_quo, u8_quo, Int.tmod_eq_emod_of_nonneg, andV_255, ← hkk, hq1, hq2]; (repeat (refine ⟨(by first | omega | assumption), ?_⟩)))); (first | (refine hk _ ?_; clear hk; (try clear k)) | (clear hk; (try clear k); refine hk _ ?_; clear hk; (try clear k)) | (clear hk; (try clear k); clear hk; (try clear k); refine hk _ ?_; clear hk; (try clear k)) | (clear hk; (try clear k); clear hk; (try clear k); clear hk; (try clear k); refine hk _ ?_; clear hk; (try clear k)))) | ((first | refine awp_seq' fun k hk => awp_region_draw (et := Try.et) Try.mixed Try.vtOK Try.etOK ?_ | refine awp_region_draw (et := Try.et) Try.mixed Try.vtOK Try.etOK ?_); simp (maxSteps := 5000000) (disch := first | (intro _; intros; contradiction) | omega) [i64_in, u8_in, u64_in, vgd_t, vgd_f, wgd_t, wgd_f, i64_quo, u8_quo, Int.tmod_eq_emod_of_nonneg, andV_255, ← hkk, hq1, hq2]; (repeat (refine ⟨(by first | omega | assumption), ?_⟩)); (repeat ((first | refine wcall_fn rfl (by simp) (LeTs.refl _) (law22_examples_S) ?_ | refine wcall_fn rfl (by simp) (LeTs.refl _) (law22_little_S z.regs z.mems z.heads z.rooms z.v z.kk z.e0 z.e1 hz.regs hz.mems hz.heads hz.rooms hz.v hz.ml) ?_ | refine wcall_fn rfl (by simp) (LeTs.refl _) (cm) ?_ | refine wcall_fn rfl (by simp) (LeTs.refl _) (cb) ?_ | refine wcall_fn rfl (by simp) (LeTs.refl _) (ci) ?_ | refine wcall_fn rfl (by simp) (LeTs.refl _) (cs) ?_ | refine wcall_fn rfl (by simp) (LeTs.refl _) (ce) ?_ | refine wcall_fn rfl (by simp) (LeTs.refl _) (ce2) ?_ | refine wcall_fn rfl (by simp) (LeTs.refl _) (cr) ?_ | refine wcall_fn rfl (by simp) (LeTs.refl _) (cs2) ?_ | refine wcall_fn rfl (by simp) (LeTs.refl _) (ct) ?_); simp (maxSteps := 5000000) (disch := first | (intro _; intros; contradiction) | omega) [i64_in, u8_in, u64_in, vgd_t, vgd_f, wgd_t, wgd_f, i64_quo, u8_quo, Int.tmod_eq_emod_of_nonneg, andV_255, ← hkk, hq1, hq2]; (repeat (refine ⟨(by first | omega | assumption), ?_⟩)))); refine ⟨by kernel_rfl, ?_⟩; (first | (refine hk _ ?_; clear hk; (try clear k)) | (clear hk; (try clear k); refine hk _ ?_; clear hk; (try clear k)) | (clear hk; (try clear k); clear hk; (try clear k); refine hk _ ?_; clear hk; (try clear k)) | (clear hk; (try clear k); clear hk; (try clear k); clear hk; (try clear k); refine hk _ ?_; clear hk; (try clear k)))) | (refine awp_cond rfl rfl (fun hc => ?_) (fun hc => ?_) <;> first | (exfalso; simp at hc; done) | (simp at hc) | skip) | (refine awp_skip ?_; (first | (refine hk _ ?_; clear hk; (try clear k)) | (clear hk; (try clear k); refine hk _ ?_; clear hk; (try clear k)) | (clear hk; (try clear k); clear hk; (try clear k); refine hk _ ?_; clear hk; (try clear k)) | (clear hk; (try clear k); clear hk; (try clear k); clear hk; (try clear k); refine hk _ ?_; clear hk; (try clear k)))) | (refine awp_ret ⟨.inr rfl, ?_⟩; (try simp [andV_255, ← hkk, hq1, hq2])) | (refine awp_seq' fun k hk => ?_) | (refine awp_block ?_))
  refine awp_for (fun q s => ∃ i : Nat, q = n.drive.length - i ∧ i ≤ n.drive.length ∧ s = ⟨[(15, tI .i64 i), (14, tI .i64 (c i : Nat)), (13, .c (.d (dB on))), (12, .c (.d (dB w))), (11, .c (.d (dB v))), (10, .c (.d (dL l))), (6, .c (.ptr 96 0)), (5, tB true)], [(96, .box false n.c_)]⟩) n.drive.length (weak_mk (by simp [hcz]) (by simp) (by simp)) ⟨0, by simp, by simp, rfl⟩ ?_
  rintro q s ⟨i, rfl, hi', rfl⟩ kl hkl
  repeat' (first | ((first | refine awp_seq' fun k hk => awp_region (et := Try.et) Try.vtOK Try.etOK ?_ | refine awp_region (et := Try.et) Try.vtOK Try.etOK ?_); simp (maxSteps := 5000000) (disch := first | (intro _; intros; contradiction) | omega) [i64_in, u8_in, u64_in, vgd_t, vgd_f, wgd_t, wgd_f, i64_quo, u8_quo, Int.tmod_eq_emod_of_nonneg]; (repeat (refine ⟨(by first | omega | assumption), ?_⟩)); skip; (first | (refine hk _ ?_; clear hk; (try clear k)) | (clear hk; (try clear k); refine hk _ ?_; clear hk; (try clear k)) | (clear hk; (try clear k); clear hk; (try clear k); refine hk _ ?_; clear hk; (try clear k)) | (clear hk; (try clear k); clear hk; (try clear k); clear hk; (try clear k); refine hk _ ?_; clear hk; (try clear k)))) | ((first | refine awp_seq' fun k hk => awp_region_draw (et := Try.et) Try.mixed Try.vtOK Try.etOK ?_ | refine awp_region_draw (et := Try.et) Try.mixed Try.vtOK Try.etOK ?_); simp (maxSteps := 5000000) (disch := first | (intro _; intros; contradiction) | omega) [i64_in, u8_in, u64_in, vgd_t, vgd_f, wgd_t, wgd_f, i64_quo, u8_quo, Int.tmod_eq_emod_of_nonneg]; (repeat (refine ⟨(by first | omega | assumption), ?_⟩)); skip; refine ⟨by kernel_rfl, ?_⟩; (first | (refine hk _ ?_; clear hk; (try clear k)) | (clear hk; (try clear k); refine hk _ ?_; clear hk; (try clear k)) | (clear hk; (try clear k); clear hk; (try clear k); refine hk _ ?_; clear hk; (try clear k)) | (clear hk; (try clear k); clear hk; (try clear k); clear hk; (try clear k); refine hk _ ?_; clear hk; (try clear k)))) | (refine awp_cond rfl rfl (fun hc => ?_) (fun hc => ?_) <;> first | (exfalso; simp at hc; done) | (simp at hc) | skip) | (refine awp_skip ?_; (first | (refine hk _ ?_; clear hk; (try clear k)) | (clear hk; (try clear k); refine hk _ ?_; clear hk; (try clear k)) | (clear hk; (try clear k); clear hk; (try clear k); refine hk _ ?_; clear hk; (try clear k)) | (clear hk; (try clear k); clear hk; (try clear k); clear hk; (try clear k); refine hk _ ?_; clear hk; (try clear k)))) | (refine awp_ret ⟨.inr rfl, ?_⟩; (try simp [])) | (refine awp_seq' fun k hk => ?_) | (refine awp_block ?_))
  · obtain ⟨d0, d1⟩ := okd i hc
    have hde : n.drive[i]?.getD 0 = n.drive[i] := by simp [hc]
    have hb1 := hdb v i hc
    have hb2 := hdb w i hc
    have hdc := hcone (n.drive[i]?.getD 0).toNat (by omega)
    have h1 := hne i hc
    have h2 := heq i hc
    rw [hb1, hb2] at h1 h2
    rw [hde] at d0 d1 hdc h1 h2
    generalize hdd : n.drive[i] = d at *
    have lv : d.toNat < v.length := by omega
    have lw : d.toNat < w.length := by omega
    have lo : d.toNat < on.length := by omega
    obtain ⟨vd, eV⟩ : ∃ b, v[d.toNat] = b := ⟨_, rfl⟩
    obtain ⟨wd, eW⟩ : ∃ b, w[d.toNat] = b := ⟨_, rfl⟩
    obtain ⟨od, eO⟩ : ∃ b, on[d.toNat] = b := ⟨_, rfl⟩
    rw [List.getElem?_eq_getElem lv, List.getElem?_eq_getElem lw, eV, eW] at h1 h2 hdc
    rw [List.getElem?_eq_getElem lo, eO] at hdc
    simp only [Option.getD_some] at h1 h2 hdc
    by_cases hvw : vd = wd
    · obtain ⟨a1, a2⟩ := h2 hvw
      by_cases hcl : c i < l.length
      · have a3 := a1 (by omega)
        rw [List.getElem?_eq_getElem hcl, Option.getD_some] at a3
        have a4 : (l[c i] == (i : Int)) = false := by simpa using a3
        repeat' (first | ((first | refine awp_seq' fun k hk => awp_region (et := Try.et) Try.vtOK Try.etOK ?_ | refine awp_region (et := Try.et) Try.vtOK Try.etOK ?_); simp (maxSteps := 5000000) (disch := first | (intro _; intros; contradiction) | omega) [i64_in, u8_in, u64_in, vgd_t, vgd_f, wgd_t, wgd_f, i64_quo, u8_quo, Int.tmod_eq_emod_of_nonneg, hdd, hcl, a4, eV, eW, eO, hvw]; (repeat (refine ⟨(by first | omega | assumption), ?_⟩)); skip; (first | (refine hk _ ?_; clear hk; (try clear k)) | (clear hk; (try clear k); refine hk _ ?_; clear hk; (try clear k)) | (clear hk; (try clear k); clear hk; (try clear k); refine hk _ ?_; clear hk; (try clear k)) | (clear hk; (try clear k); clear hk; (try clear k); clear hk; (try clear k); refine hk _ ?_; clear hk; (try clear k)))) | ((first | refine awp_seq' fun k hk => awp_region_draw (et := Try.et) Try.mixed Try.vtOK Try.etOK ?_ | refine awp_region_draw (et := Try.et) Try.mixed Try.vtOK Try.etOK ?_); simp (maxSteps := 5000000) (disch := first | (intro _; intros; contradiction) | omega) [i64_in, u8_in, u64_in, vgd_t, vgd_f, wgd_t, wgd_f, i64_quo, u8_quo, Int.tmod_eq_emod_of_nonneg, hdd, hcl, a4, eV, eW, eO, hvw]; (repeat (refine ⟨(by first | omega | assumption), ?_⟩)); skip; refine ⟨by kernel_rfl, ?_⟩; (first | (refine hk _ ?_; clear hk; (try clear k)) | (clear hk; (try clear k); refine hk _ ?_; clear hk; (try clear k)) | (clear hk; (try clear k); clear hk; (try clear k); refine hk _ ?_; clear hk; (try clear k)) | (clear hk; (try clear k); clear hk; (try clear k); clear hk; (try clear k); refine hk _ ?_; clear hk; (try clear k)))) | (refine awp_cond rfl rfl (fun hc => ?_) (fun hc => ?_) <;> first | (exfalso; simp at hc; done) | (simp at hc) | skip) | (refine awp_skip ?_; (first | (refine hk _ ?_; clear hk; (try clear k)) | (clear hk; (try clear k); refine hk _ ?_; clear hk; (try clear k)) | (clear hk; (try clear k); clear hk; (try clear k); refine hk _ ?_; clear hk; (try clear k)) | (clear hk; (try clear k); clear hk; (try clear k); clear hk; (try clear k); refine hk _ ?_; clear hk; (try clear k)))) | (refine awp_ret ⟨.inr rfl, ?_⟩; (try simp [hdd, hcl, a4, eV, eW, eO, hvw])) | (refine awp_seq' fun k hk => ?_) | (refine awp_block ?_))
        all_goals
          refine awp_region (et := Try.et) Try.vtOK Try.etOK ?_
          simp (maxSteps := 5000000) (disch := first | (intro _; intros; contradiction) | omega) [i64_in, u8_in, vgd_t, vgd_f, wgd_t, wgd_f]
          refine hkl _ _ _ (by omega) ⟨i + 1, rfl, by omega, rfl⟩ (weak_mk (by simp [a2]) (by simp) (by simp))
      · repeat' (first | ((first | refine awp_seq' fun k hk => awp_region (et := Try.et) Try.vtOK Try.etOK ?_ | refine awp_region (et := Try.et) Try.vtOK Try.etOK ?_); simp (maxSteps := 5000000) (disch := first | (intro _; intros; contradiction) | omega) [i64_in, u8_in, u64_in, vgd_t, vgd_f, wgd_t, wgd_f, i64_quo, u8_quo, Int.tmod_eq_emod_of_nonneg, hdd, hcl, eV, eW, eO, hvw]; (repeat (refine ⟨(by first | omega | assumption), ?_⟩)); skip; (first | (refine hk _ ?_; clear hk; (try clear k)) | (clear hk; (try clear k); refine hk _ ?_; clear hk; (try clear k)) | (clear hk; (try clear k); clear hk; (try clear k); refine hk _ ?_; clear hk; (try clear k)) | (clear hk; (try clear k); clear hk; (try clear k); clear hk; (try clear k); refine hk _ ?_; clear hk; (try clear k)))) | ((first | refine awp_seq' fun k hk => awp_region_draw (et := Try.et) Try.mixed Try.vtOK Try.etOK ?_ | refine awp_region_draw (et := Try.et) Try.mixed Try.vtOK Try.etOK ?_); simp (maxSteps := 5000000) (disch := first | (intro _; intros; contradiction) | omega) [i64_in, u8_in, u64_in, vgd_t, vgd_f, wgd_t, wgd_f, i64_quo, u8_quo, Int.tmod_eq_emod_of_nonneg, hdd, hcl, eV, eW, eO, hvw]; (repeat (refine ⟨(by first | omega | assumption), ?_⟩)); skip; refine ⟨by kernel_rfl, ?_⟩; (first | (refine hk _ ?_; clear hk; (try clear k)) | (clear hk; (try clear k); refine hk _ ?_; clear hk; (try clear k)) | (clear hk; (try clear k); clear hk; (try clear k); refine hk _ ?_; clear hk; (try clear k)) | (clear hk; (try clear k); clear hk; (try clear k); clear hk; (try clear k); refine hk _ ?_; clear hk; (try clear k)))) | (refine awp_cond rfl rfl (fun hc => ?_) (fun hc => ?_) <;> first | (exfalso; simp at hc; done) | (simp at hc) | skip) | (refine awp_skip ?_; (first | (refine hk _ ?_; clear hk; (try clear k)) | (clear hk; (try clear k); refine hk _ ?_; clear hk; (try clear k)) | (clear hk; (try clear k); clear hk; (try clear k); refine hk _ ?_; clear hk; (try clear k)) | (clear hk; (try clear k); clear hk; (try clear k); clear hk; (try clear k); refine hk _ ?_; clear hk; (try clear k)))) | (refine awp_ret ⟨.inr rfl, ?_⟩; (try simp [hdd, hcl, eV, eW, eO, hvw])) | (refine awp_seq' fun k hk => ?_) | (refine awp_block ?_))
        all_goals
          refine awp_region (et := Try.et) Try.vtOK Try.etOK ?_
          simp (maxSteps := 5000000) (disch := first | (intro _; intros; contradiction) | omega) [i64_in, u8_in, vgd_t, vgd_f, wgd_t, wgd_f]
          refine hkl _ _ _ (by omega) ⟨i + 1, rfl, by omega, rfl⟩ (weak_mk (by simp [a2]) (by simp) (by simp))
    · obtain ⟨a1, a2, a3⟩ := h1 hvw
      have hcl : c i < l.length := by omega
      rw [List.getElem?_eq_getElem hcl, Option.getD_some] at a2
      have hod := hdc hvw
      repeat' (first | ((first | refine awp_seq' fun k hk => awp_region (et := Try.et) Try.vtOK Try.etOK ?_ | refine awp_region (et := Try.et) Try.vtOK Try.etOK ?_); simp (maxSteps := 5000000) (disch := first | (intro _; intros; contradiction) | omega) [i64_in, u8_in, u64_in, vgd_t, vgd_f, wgd_t, wgd_f, i64_quo, u8_quo, Int.tmod_eq_emod_of_nonneg, hdd, hcl, a2, eV, eW, eO, hvw, hod]; (repeat (refine ⟨(by first | omega | assumption), ?_⟩)); skip; (first | (refine hk _ ?_; clear hk; (try clear k)) | (clear hk; (try clear k); refine hk _ ?_; clear hk; (try clear k)) | (clear hk; (try clear k); clear hk; (try clear k); refine hk _ ?_; clear hk; (try clear k)) | (clear hk; (try clear k); clear hk; (try clear k); clear hk; (try clear k); refine hk _ ?_; clear hk; (try clear k)))) | ((first | refine awp_seq' fun k hk => awp_region_draw (et := Try.et) Try.mixed Try.vtOK Try.etOK ?_ | refine awp_region_draw (et := Try.et) Try.mixed Try.vtOK Try.etOK ?_); simp (maxSteps := 5000000) (disch := first | (intro _; intros; contradiction) | omega) [i64_in, u8_in, u64_in, vgd_t, vgd_f, wgd_t, wgd_f, i64_quo, u8_quo, Int.tmod_eq_emod_of_nonneg, hdd, hcl, a2, eV, eW, eO, hvw, hod]; (repeat (refine ⟨(by first | omega | assumption), ?_⟩)); skip; refine ⟨by kernel_rfl, ?_⟩; (first | (refine hk _ ?_; clear hk; (try clear k)) | (clear hk; (try clear k); refine hk _ ?_; clear hk; (try clear k)) | (clear hk; (try clear k); clear hk; (try clear k); refine hk _ ?_; clear hk; (try clear k)) | (clear hk; (try clear k); clear hk; (try clear k); clear hk; (try clear k); refine hk _ ?_; clear hk; (try clear k)))) | (refine awp_cond rfl rfl (fun hc => ?_) (fun hc => ?_) <;> first | (exfalso; simp at hc; done) | (simp at hc) | skip) | (refine awp_skip ?_; (first | (refine hk _ ?_; clear hk; (try clear k)) | (clear hk; (try clear k); refine hk _ ?_; clear hk; (try clear k)) | (clear hk; (try clear k); clear hk; (try clear k); refine hk _ ?_; clear hk; (try clear k)) | (clear hk; (try clear k); clear hk; (try clear k); clear hk; (try clear k); refine hk _ ?_; clear hk; (try clear k)))) | (refine awp_ret ⟨.inr rfl, ?_⟩; (try simp [hdd, hcl, a2, eV, eW, eO, hvw, hod])) | (refine awp_seq' fun k hk => ?_) | (refine awp_block ?_))
      all_goals
        refine awp_region (et := Try.et) Try.vtOK Try.etOK ?_
        simp (maxSteps := 5000000) (disch := first | (intro _; intros; contradiction) | omega) [i64_in, u8_in, vgd_t, vgd_f, wgd_t, wgd_f]
        refine hkl _ _ _ (by omega) ⟨i + 1, rfl, by omega, rfl⟩ (weak_mk (by simp [a3]) (by simp) (by simp))
  · refine awp_exit ?_
    simp at hc ⊢
    obtain rfl : i = n.drive.length := by omega
    (first | (refine hk _ ?_; clear hk; (try clear k)) | (clear hk; (try clear k); refine hk _ ?_; clear hk; (try clear k)) | (clear hk; (try clear k); clear hk; (try clear k); refine hk _ ?_; clear hk; (try clear k)) | (clear hk; (try clear k); clear hk; (try clear k); clear hk; (try clear k); refine hk _ ?_; clear hk; (try clear k)))
    repeat' (first | ((first | refine awp_seq' fun k hk => awp_region (et := Try.et) Try.vtOK Try.etOK ?_ | refine awp_region (et := Try.et) Try.vtOK Try.etOK ?_); simp (maxSteps := 5000000) (disch := first | (intro _; intros; contradiction) | omega) [i64_in, u8_in, u64_in, vgd_t, vgd_f, wgd_t, wgd_f, i64_quo, u8_quo, Int.tmod_eq_emod_of_nonneg, hlc]; (repeat (refine ⟨(by first | omega | assumption), ?_⟩)); skip; (first | (refine hk _ ?_; clear hk; (try clear k)) | (clear hk; (try clear k); refine hk _ ?_; clear hk; (try clear k)) | (clear hk; (try clear k); clear hk; (try clear k); refine hk _ ?_; clear hk; (try clear k)) | (clear hk; (try clear k); clear hk; (try clear k); clear hk; (try clear k); refine hk _ ?_; clear hk; (try clear k)))) | ((first | refine awp_seq' fun k hk => awp_region_draw (et := Try.et) Try.mixed Try.vtOK Try.etOK ?_ | refine awp_region_draw (et := Try.et) Try.mixed Try.vtOK Try.etOK ?_); simp (maxSteps := 5000000) (disch := first | (intro _; intros; contradiction) | omega) [i64_in, u8_in, u64_in, vgd_t, vgd_f, wgd_t, wgd_f, i64_quo, u8_quo, Int.tmod_eq_emod_of_nonneg, hlc]; (repeat (refine ⟨(by first | omega | assumption), ?_⟩)); skip; refine ⟨by kernel_rfl, ?_⟩; (first | (refine hk _ ?_; clear hk; (try clear k)) | (clear hk; (try clear k); refine hk _ ?_; clear hk; (try clear k)) | (clear hk; (try clear k); clear hk; (try clear k); refine hk _ ?_; clear hk; (try clear k)) | (clear hk; (try clear k); clear hk; (try clear k); clear hk; (try clear k); refine hk _ ?_; clear hk; (try clear k)))) | (refine awp_cond rfl rfl (fun hc => ?_) (fun hc => ?_) <;> first | (exfalso; simp at hc; done) | (simp at hc) | skip) | (refine awp_skip ?_; (first | (refine hk _ ?_; clear hk; (try clear k)) | (clear hk; (try clear k); refine hk _ ?_; clear hk; (try clear k)) | (clear hk; (try clear k); clear hk; (try clear k); refine hk _ ?_; clear hk; (try clear k)) | (clear hk; (try clear k); clear hk; (try clear k); clear hk; (try clear k); refine hk _ ?_; clear hk; (try clear k)))) | (refine awp_ret ⟨.inr rfl, ?_⟩; (try simp [hlc])) | (refine awp_seq' fun k hk => ?_) | (refine awp_block ?_))
end Go.Proofs
