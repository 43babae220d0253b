/- NQ8: complements of all outputs, in plain Lean. -/
import Derived.Test.YtiajgnpobcidmaaVa
import Derived.Test.YtiajgnpobcidmaaVb
import Derived.Test.YtiajgnpobcidmaaVc
import Derived.Test.YtiajgnpobcidmaaVd
import Derived.Test.YtiajgnpobcidmaaT
import Derived.Test.YtiajgnpobcidmaaN1
import Derived.Test.YtiajgnpobcidmaaN2
import Derived.Test.YtiajgnpobcidmaaN3
set_option linter.unusedSimpArgs false
set_option linter.unusedVariables false

namespace Go.Proofs
open Go.V

/-- The net whose outputs are complemented by gates; the first i of them. -/
def notG (d : Int) : Ga := ⟨1, d, 0, 0, 0⟩
def Nt.neg (n : Nt) : Nt := ⟨n.ins, n.gates ++ n.drive.map notG, n.outs, (List.range n.drive.length).map fun i : Nat => 2 + (n.ins.length : Int) + n.gates.length + i⟩

theorem evI_app (gs hs : List Ga) (ms : List (List Int)) (v : List Bool) : ∀ i, i ≤ gs.length → evI (gs ++ hs) ms v i = evI gs ms v i
  | 0, _ => rfl
  | i + 1, h => by
    simp only [evI, evI_app gs hs ms v i (by omega)]
    rw [List.getElem?_append_left (by omega)]
theorem gateV_not (ms : List (List Int)) (v : List Bool) (d : Int) : gateV ms v (notG d) = !v[d.toNat]?.getD false := rfl
theorem evI_neg (n : Nt) (ms : List (List Int)) (v : List Bool) (hd : ∀ i < n.drive.length, 0 ≤ n.drive[i]?.getD 0 ∧ n.drive[i]?.getD 0 < v.length + n.gates.length) : ∀ i, i ≤ n.drive.length →
    evI n.neg.gates ms v (n.gates.length + i) = evI n.gates ms v n.gates.length ++ ((drB (evI n.gates ms v n.gates.length) n.drive).take i).map (! ·)
  | 0, _ => by simp [Nt.neg, evI_app]
  | i + 1, h => by
    rw [← Nat.add_assoc]
    simp only [evI]
    rw [evI_neg n ms v hd i (by omega)]
    have hg : n.neg.gates[n.gates.length + i]?.getD default = notG (n.drive[i]?.getD 0) := by
      unfold Nt.neg
      simp only
      rw [List.getElem?_append_right (by omega)]
      simp [show i < n.drive.length by omega]
    rw [hg]
    have hlen := evI_length n.gates ms v n.gates.length
    have hd' := hd i (by omega)
    generalize evI n.gates ms v n.gates.length = u at *
    have e1 : (drB u n.drive).take (i + 1) = (drB u n.drive).take i ++ [u[(n.drive[i]?.getD 0).toNat]?.getD false] := by
      rw [take_snoc _ _ (by simp [drB]; omega)]
      simp [drB, show i < n.drive.length by omega]
    rw [e1]
    have e2 : gateV ms (u ++ List.map (! ·) ((drB u n.drive).take i)) (notG (n.drive[i]?.getD 0)) = !u[(n.drive[i]?.getD 0).toNat]?.getD false := by
      rw [gateV_not, List.getElem?_append_left (by omega)]
    rw [e2]
    simp
theorem vals_neg (n : Nt) (xs : List Bool) (ms : List (List Int)) (hx : xs.length = n.ins.length) (hd : ∀ i < n.drive.length, 0 ≤ n.drive[i]?.getD 0 ∧ n.drive[i]?.getD 0 < 2 + n.ins.length + n.gates.length) :
    n.neg.vals xs ms = n.vals xs ms ++ (drB (n.vals xs ms) n.drive).map (! ·) := by
  have h := evI_neg n ms (false :: true :: xs) (fun i hi => by have := hd i hi; simp; omega) n.drive.length (Nat.le_refl _)
  unfold Nt.vals
  have e : n.neg.gates.length = n.gates.length + n.drive.length := by simp [Nt.neg]
  rw [e, h, List.take_of_length_le (by simp [drB])]
theorem drB_neg (n : Nt) (xs : List Bool) (ms : List (List Int)) (hx : xs.length = n.ins.length) (hd : ∀ i < n.drive.length, 0 ≤ n.drive[i]?.getD 0 ∧ n.drive[i]?.getD 0 < 2 + n.ins.length + n.gates.length) :
    drB (n.neg.vals xs ms) n.neg.drive = (drB (n.vals xs ms) n.drive).map (! ·) := by
  rw [vals_neg n xs ms hx hd]
  have hl : (n.vals xs ms).length = 2 + n.ins.length + n.gates.length := by unfold Nt.vals; rw [evI_length]; simp; omega
  have hd2 : (drB (n.vals xs ms) n.drive).length = n.drive.length := by simp [drB]
  generalize n.vals xs ms = v at *
  apply List.ext_getElem?
  intro i
  by_cases hi : i < n.drive.length
  · have e : (2 + (n.ins.length : Int) + n.gates.length + i).toNat = v.length + i := by omega
    simp only [drB, Nt.neg, List.map_map, List.getElem?_map, List.getElem?_range hi, Option.map_some, Function.comp, e]
    rw [List.getElem?_append_right (by omega)]
    simp [hi]
  · rw [List.getElem?_eq_none (by simp [drB, Nt.neg]; omega), List.getElem?_eq_none (by simp [drB]; omega)]
theorem difI_neg (a b : List Bool) (hl : b.length = a.length) : ∀ n, n ≤ a.length → difI (a.map (! ·)) (b.map (! ·)) n = difI a b n
  | 0, _ => rfl
  | n + 1, h => by
    simp only [difI, difI_neg a b hl n (by omega)]
    have h1 : n < a.length := by omega
    have h2 : n < b.length := by omega
    simp [h1, h2]
theorem neg_okX (n : Nt) (ok : n.okX n.ins.length) (hg : n.gates.length ≤ 60) (hd : n.drive.length ≤ 1000) : n.neg.okX n.neg.ins.length := by
  obtain ⟨o1, o2, o3, o4, o5, o6⟩ := ok
  have eg : n.neg.gates.length = n.gates.length + n.drive.length := by simp [Nt.neg]
  have ed : n.neg.drive.length = n.drive.length := by simp [Nt.neg]
  refine ⟨by omega, by omega, o3, o4, fun i hi => ?_, fun i hi => ?_⟩
  · show (n.neg.gates[i]?.getD default).ok (2 + n.ins.length + i)
    by_cases h : i < n.gates.length
    · have := o5 i h
      simp only [Nt.neg]
      rw [List.getElem?_append_left h]
      exact this
    · have h3 := o6 (i - n.gates.length) (by omega)
      simp only [Nt.neg]
      rw [List.getElem?_append_right (by omega)]
      have hlt : i - n.gates.length < n.drive.length := by omega
      simp only [List.getElem?_map, List.getElem?_eq_getElem hlt, Option.map_some, Option.getD_some, notG, Ga.ok] at h3 ⊢
      refine ⟨by omega, by omega, by omega, by omega, by omega, by omega, by omega, by omega, by omega, by omega⟩
  · rw [ed] at hi
    simp only [Nt.neg, List.length_append, List.length_map, List.getElem?_map, List.getElem?_range hi, Option.map_some, Option.getD_some]
    refine ⟨by omega, ?_⟩
    push_cast
    omega
@[simp high] theorem srcOf_dG (m : List (Nm × V.Obj)) (z : Nat) (xs : List Ga) : srcOf m z (.c (.d (dG xs))) = srcOf m z (.c (.d (.l xs.length fun j => (xs[j]?.getD default).c_))) := rfl
@[simp high] theorem evSlice_dG (tab : Tab) (st : St) (t : Nat) (xs : List Ga) (lo hi mx : Option T) : evSlice tab st t (.c (.d (dG xs))) lo hi mx = evSlice tab st t (.c (.d (.l xs.length fun j => (xs[j]?.getD default).c_))) lo hi mx := rfl
@[simp high] theorem srcOf_dW (m : List (Nm × V.Obj)) (z : Nat) (xs : List Wi) : srcOf m z (.c (.d (dW xs))) = srcOf m z (.c (.d (.l xs.length fun j => (xs[j]?.getD default).c_))) := rfl
@[simp high] theorem evSlice_dW (tab : Tab) (st : St) (t : Nat) (xs : List Wi) (lo hi mx : Option T) : evSlice tab st t (.c (.d (dW xs))) lo hi mx = evSlice tab st t (.c (.d (.l xs.length fun j => (xs[j]?.getD default).c_))) lo hi mx := rfl
@[simp high] theorem srcOf_dLL (m : List (Nm × V.Obj)) (z : Nat) (xs : List (List Int)) : srcOf m z (.c (.d (dLL xs))) = srcOf m z (.c (.d (.l xs.length fun j => [dL (xs[j]?.getD [])]))) := rfl
@[simp high] theorem evSlice_dLL (tab : Tab) (st : St) (t : Nat) (xs : List (List Int)) (lo hi mx : Option T) : evSlice tab st t (.c (.d (dLL xs))) lo hi mx = evSlice tab st t (.c (.d (.l xs.length fun j => [dL (xs[j]?.getD [])]))) lo hi mx := rfl
end Go.Proofs

namespace Go.Proofs
open Go.V IntWalk
set_option maxRecDepth 100000
set_option maxHeartbeats 8000000
set_option linter.unusedSimpArgs false
set_option linter.unusedVariables false

theorem law22_NetsimComplement_S (x : R22) (z : Od) (hx : x.fit) (hz : z.ok) : FSpec Try.prog 12 [.agg x.c_, .agg z.c_] [] (tB true) [] := by
  obtain ⟨okx, okw, hgl⟩ := madeN_okX x hx.ok
  have hI := mkI_len x
  rw [← madeN_ins x] at okx hI
  have hdl : (madeN x).drive.length ≤ 9 := by unfold madeN; simp only; split <;> simp; omega
  have cm := ref22_Made_S x hx.ok hx.ins hx.gates hx.outs
  generalize madeN x = n at *
  have okd := okx.2.2.2.2.2
  have okm := neg_okX n okx hgl (by omega)
  have cb := ref22_Bools_S n.ins.length z.v (by omega) hz.v hz.u8
  have hbl := boolsI_len z.v n.ins.length
  generalize boolsI z.v n.ins.length = xs at *
  obtain ⟨kk, hkk⟩ : ∃ kk : Nat, (kk : Int) = z.kk % 256 % xs.length := ⟨(z.kk % 256 % xs.length).toNat, by have := Int.emod_nonneg (z.kk % 256) (b := xs.length) (by omega); omega⟩
  have hkl : kk < xs.length := by have := Int.emod_lt_of_pos (z.kk % 256) (b := xs.length) (by omega); omega
  have hx0 : ¬ xs = [] := fun h => by rw [h] at hbl; simp at hbl; omega
  have eg : n.neg.gates.length = n.gates.length + n.drive.length := by simp [Nt.neg]
  have ed : n.neg.drive.length = n.drive.length := by simp [Nt.neg]
  have hd2 : ∀ i < n.drive.length, 0 ≤ n.drive[i]?.getD 0 ∧ n.drive[i]?.getD 0 < 2 + n.ins.length + n.gates.length := okd
  have ce := netsim_Eval_S n xs z.mems (by omega) (by omega) hz.mems (by rw [hbl]; exact okx.2.2.2.2.1)
  have ce2 := netsim_Eval_S n.neg xs z.mems (by omega) (by omega) hz.mems (by rw [hbl]; exact okm.2.2.2.2.1)
  have cs := netsim_Sensitive_S n xs z.mems kk hbl (by omega) hz.mems (by rw [hbl]; exact okx)
  have cs2 := netsim_Sensitive_S n.neg xs z.mems kk hbl (show kk < n.ins.length by omega) hz.mems (by rw [hbl]; exact okm)
  rw [show evI n.gates z.mems (false :: true :: xs) n.gates.length = n.vals xs z.mems from rfl] at ce
  rw [show evI n.neg.gates z.mems (false :: true :: xs) n.neg.gates.length = n.neg.vals xs z.mems from rfl, vals_neg n xs z.mems hbl hd2] at ce2
  have hdv : ∀ ys, (drB (n.vals ys z.mems) n.drive).length = n.drive.length := fun ys => by simp [drB]
  rw [drB_neg n xs z.mems hbl hd2, drB_neg n _ z.mems (by simpa using hbl) hd2, ed, difI_neg _ _ (by simp [hdv]) _ (by simp [hdv])] at cs2
  have hll := difI_len (drB (n.vals xs z.mems) n.drive) (drB (n.vals (xs.set kk (!xs[kk]?.getD false)) z.mems) n.drive) n.drive.length
  generalize difI (drB (n.vals xs z.mems) n.drive) (drB (n.vals (xs.set kk (!xs[kk]?.getD false)) z.mems) n.drive) n.drive.length = l at *
  have ct := ref12_Ints_S l l (by omega) (by omega)
  simp only [beq_self_eq_true] at ct
  have hvl : (n.vals xs z.mems).length = 2 + n.ins.length + n.gates.length := by unfold Nt.vals; rw [evI_length]; simp; omega
  generalize n.vals xs z.mems = v at *
  have hw1 : (v ++ (drB v n.drive).map (! ·)).length = v.length + n.drive.length := by simp [drB]
  have hw2 : ∀ j, j < v.length → (v ++ (drB v n.drive).map (! ·))[j]?.getD false = v[j]?.getD false := fun j hj => by rw [List.getElem?_append_left hj]
  have hw3 : ∀ i, i < n.drive.length → (v ++ (drB v n.drive).map (! ·))[v.length + i]?.getD false = !v[(n.drive[i]?.getD 0).toNat]?.getD false := fun i hi => by
    rw [List.getElem?_append_right (by omega)]
    simp [drB, hi]
  generalize v ++ (drB v n.drive).map (! ·) = w at *
  have hq1 : ((w.length : Int) != v.length + n.drive.length) = false := by simp; omega
  have hq2 : ((v.length : Int) != 2 + xs.length + n.gates.length) = false := by simp; omega
  have cv := ref13_Bools_S v v (by omega) (by omega)
  simp only [beq_self_eq_true] at cv
  refine fspec_intro Try.func12 (by kernel_rfl) rfl Try.vtOK rfl Try.ntmps12 (by simp) ?_
  repeat' (first | ((first | refine awp_seq' fun k hk => awp_region (et := Try.et) Try.vtOK Try.etOK ?_ | refine awp_region (et := Try.et) Try.vtOK Try.etOK ?_); simp (maxSteps := 5000000) (disch := first | (intro _; intros; contradiction) | omega) [i64_in, u8_in, u64_in, vgd_t, vgd_f, wgd_t, wgd_f, i64_quo, u8_quo, Int.tmod_eq_emod_of_nonneg]; (repeat (refine ⟨(by first | omega | assumption), ?_⟩)); (repeat ((first | refine vcall_fn rfl (by simp) (LeTs.refl _) (law22_examples_S) ?_ | refine vcall_fn rfl (by simp) (LeTs.refl _) (law22_little_S z.regs z.mems z.heads z.rooms z.v z.kk z.e0 z.e1 hz.regs hz.mems hz.heads hz.rooms hz.v hz.ml) ?_ | refine vcall_fn rfl (by simp) (LeTs.refl _) (cm) ?_); simp (maxSteps := 5000000) (disch := first | (intro _; intros; contradiction) | omega) [i64_in, u8_in, u64_in, vgd_t, vgd_f, wgd_t, wgd_f, i64_quo, u8_quo, Int.tmod_eq_emod_of_nonneg]; (repeat (refine ⟨(by first | omega | assumption), ?_⟩)))); (first | (refine hk _ ?_; clear hk; (try clear k)) | (clear hk; (try clear k); refine hk _ ?_; clear hk; (try clear k)) | (clear hk; (try clear k); clear hk; (try clear k); refine hk _ ?_; clear hk; (try clear k)) | (clear hk; (try clear k); clear hk; (try clear k); clear hk; (try clear k); refine hk _ ?_; clear hk; (try clear k)))) | ((first | refine awp_seq' fun k hk => awp_region_draw (et := Try.et) Try.mixed Try.vtOK Try.etOK ?_ | refine awp_region_draw (et := Try.et) Try.mixed Try.vtOK Try.etOK ?_); simp (maxSteps := 5000000) (disch := first | (intro _; intros; contradiction) | omega) [i64_in, u8_in, u64_in, vgd_t, vgd_f, wgd_t, wgd_f, i64_quo, u8_quo, Int.tmod_eq_emod_of_nonneg]; (repeat (refine ⟨(by first | omega | assumption), ?_⟩)); (repeat ((first | refine wcall_fn rfl (by simp) (LeTs.refl _) (law22_examples_S) ?_ | refine wcall_fn rfl (by simp) (LeTs.refl _) (law22_little_S z.regs z.mems z.heads z.rooms z.v z.kk z.e0 z.e1 hz.regs hz.mems hz.heads hz.rooms hz.v hz.ml) ?_ | refine wcall_fn rfl (by simp) (LeTs.refl _) (cm) ?_); simp (maxSteps := 5000000) (disch := first | (intro _; intros; contradiction) | omega) [i64_in, u8_in, u64_in, vgd_t, vgd_f, wgd_t, wgd_f, i64_quo, u8_quo, Int.tmod_eq_emod_of_nonneg]; (repeat (refine ⟨(by first | omega | assumption), ?_⟩)))); refine ⟨by kernel_rfl, ?_⟩; (first | (refine hk _ ?_; clear hk; (try clear k)) | (clear hk; (try clear k); refine hk _ ?_; clear hk; (try clear k)) | (clear hk; (try clear k); clear hk; (try clear k); refine hk _ ?_; clear hk; (try clear k)) | (clear hk; (try clear k); clear hk; (try clear k); clear hk; (try clear k); refine hk _ ?_; clear hk; (try clear k)))) | (refine awp_cond rfl rfl (fun hc => ?_) (fun hc => ?_) <;> first | (exfalso; simp at hc; done) | (simp at hc) | skip) | (refine awp_skip ?_; (first | (refine hk _ ?_; clear hk; (try clear k)) | (clear hk; (try clear k); refine hk _ ?_; clear hk; (try clear k)) | (clear hk; (try clear k); clear hk; (try clear k); refine hk _ ?_; clear hk; (try clear k)) | (clear hk; (try clear k); clear hk; (try clear k); clear hk; (try clear k); refine hk _ ?_; clear hk; (try clear k)))) | (refine awp_ret ⟨.inr rfl, ?_⟩; (try simp [])) | (refine awp_seq' fun k hk => ?_) | (refine awp_block ?_))
  refine awp_weak (weak_nilB (cs := [.d (dW n.ins), .row 384 n.gates.length, .d (dW n.outs), .d (.s (.slice none 0 0))]) (b := 112) (i := 3) (n := 3001) (ty := 3) (sz := 1) (fun j => [.s (.int .i64 (2 + (n.ins.length : Int) + n.gates.length + (j : Nat)))]) (by simp) (by simp) (by simp)) ?_
  refine awp_for (fun q s => ∃ i : Nat, q = n.drive.length - i ∧ i ≤ n.drive.length ∧ s = ⟨[(8, tI .i64 i), (7, .c (.ptr 112 0)), (6, .c (.ptr 96 0)), (5, tB true), (3, .c (.ptr 48 0))], [(3001, .row false 3 1 i (fun j => [.s (.int .i64 (2 + (n.ins.length : Int) + n.gates.length + (j : Nat)))])), (384, .row false 99 5 (n.gates.length + i) (rF Ga.c_ (n.gates ++ (n.drive.map notG).take i))), (112, .box false [.d (dW n.ins), .row 384 (n.gates.length + i), .d (dW n.outs), .row 3001 i]), (96, .box false n.c_), (48, .box false z.c_)]⟩) n.drive.length (weak_mk (by simp) ?_ (by simp)) ⟨0, by simp, by simp, rfl⟩ ?_
  · simp
    exact .refl _
  · rintro q s ⟨i, rfl, hi', rfl⟩ kl hkl
    repeat' (first | ((first | refine awp_seq' fun k hk => awp_region (et := Try.et) Try.vtOK Try.etOK ?_ | refine awp_region (et := Try.et) Try.vtOK Try.etOK ?_); simp (maxSteps := 5000000) (disch := first | (intro _; intros; contradiction) | omega) [i64_in, u8_in, u64_in, vgd_t, vgd_f, wgd_t, wgd_f, i64_quo, u8_quo, Int.tmod_eq_emod_of_nonneg]; (repeat (refine ⟨(by first | omega | assumption), ?_⟩)); skip; (first | (refine hk _ ?_; clear hk; (try clear k)) | (clear hk; (try clear k); refine hk _ ?_; clear hk; (try clear k)) | (clear hk; (try clear k); clear hk; (try clear k); refine hk _ ?_; clear hk; (try clear k)) | (clear hk; (try clear k); clear hk; (try clear k); clear hk; (try clear k); refine hk _ ?_; clear hk; (try clear k)))) | ((first | refine awp_seq' fun k hk => awp_region_draw (et := Try.et) Try.mixed Try.vtOK Try.etOK ?_ | refine awp_region_draw (et := Try.et) Try.mixed Try.vtOK Try.etOK ?_); simp (maxSteps := 5000000) (disch := first | (intro _; intros; contradiction) | omega) [i64_in, u8_in, u64_in, vgd_t, vgd_f, wgd_t, wgd_f, i64_quo, u8_quo, Int.tmod_eq_emod_of_nonneg]; (repeat (refine ⟨(by first | omega | assumption), ?_⟩)); skip; refine ⟨by kernel_rfl, ?_⟩; (first | (refine hk _ ?_; clear hk; (try clear k)) | (clear hk; (try clear k); refine hk _ ?_; clear hk; (try clear k)) | (clear hk; (try clear k); clear hk; (try clear k); refine hk _ ?_; clear hk; (try clear k)) | (clear hk; (try clear k); clear hk; (try clear k); clear hk; (try clear k); refine hk _ ?_; clear hk; (try clear k)))) | (refine awp_cond rfl rfl (fun hc => ?_) (fun hc => ?_) <;> first | (exfalso; simp at hc; done) | (simp at hc) | skip) | (refine awp_skip ?_; (first | (refine hk _ ?_; clear hk; (try clear k)) | (clear hk; (try clear k); refine hk _ ?_; clear hk; (try clear k)) | (clear hk; (try clear k); clear hk; (try clear k); refine hk _ ?_; clear hk; (try clear k)) | (clear hk; (try clear k); clear hk; (try clear k); clear hk; (try clear k); refine hk _ ?_; clear hk; (try clear k)))) | (refine awp_ret ⟨.inr rfl, ?_⟩; (try simp [])) | (refine awp_seq' fun k hk => ?_) | (refine awp_block ?_))
    · have hde : n.drive[i]?.getD default = n.drive[i] := by simp [hc]
      generalize hdd : n.drive[i] = d at *
      have e1 : (n.drive.map notG).take (i + 1) = (n.drive.map notG).take i ++ [notG d] := by rw [take_snoc _ _ (by simpa using hc)]; simp [hc, hdd]
      have e2 : (n.gates ++ (n.drive.map notG).take i).length = n.gates.length + i := by simp; omega
      refine awp_region (et := Try.et) Try.vtOK Try.etOK ?_
      simp (maxSteps := 5000000) (disch := first | (intro _; intros; contradiction) | omega) [i64_in, u8_in, vgd_t, vgd_f, wgd_t, wgd_f]
      refine hkl _ _ _ (by omega) ⟨i + 1, rfl, by omega, rfl⟩ (weak_mk (by simp) ?_ (by simp))
      simp only [← Nat.add_assoc]
      simp
      refine ⟨appN _ _ _ (by simp [Int.add_assoc]), ?_⟩
      refine app_rF' (notG d) e2.symm ?_ (by simp [notG])
      rw [List.append_assoc, ← e1]
    · refine awp_exit ?_
      simp at hc ⊢
      obtain rfl : i = n.drive.length := by omega
      (first | (refine hk _ ?_; clear hk; (try clear k)) | (clear hk; (try clear k); refine hk _ ?_; clear hk; (try clear k)) | (clear hk; (try clear k); clear hk; (try clear k); refine hk _ ?_; clear hk; (try clear k)) | (clear hk; (try clear k); clear hk; (try clear k); clear hk; (try clear k); refine hk _ ?_; clear hk; (try clear k)))
      refine awp_weak (st' := ⟨[(7, .c (.ptr 112 0)), (6, .c (.ptr 96 0)), (5, tB true), (3, .c (.ptr 48 0))], [(3001, .row false 3 1 n.neg.drive.length (fun j => [.s (.int .i64 (n.neg.drive[j]?.getD 0))])), (384, .row false 99 5 n.neg.gates.length (rF Ga.c_ n.neg.gates)), (112, .box false [.d (dW n.neg.ins), .row 384 n.neg.gates.length, .d (dW n.neg.outs), .row 3001 n.neg.drive.length]), (96, .box false n.c_), (48, .box false z.c_)]⟩) (weak_mk (by simp) ?_ (by simp)) ?_
      · rw [eg, ed]
        simp
        refine ⟨LeD.ext fun j hj => by simp [Nt.neg, hj], ?_, .refl _, .refl _⟩
        rw [List.take_of_length_le (by simp)]
        exact .refl _
      refine awp_weak (weak_boxR (b := 112) [] rfl rfl ?_ (by simp)) ?_
      · exact ⟨trivial, rfl, trivial, rfl, trivial⟩
      refine awp_weak (st' := ⟨[(7, .c (.ptr 112 0)), (6, .c (.ptr 96 0)), (5, tB true), (3, .c (.ptr 48 0))], [(112, .box false n.neg.c_), (96, .box false n.c_), (48, .box false z.c_)]⟩) (weak_mk (by simp) (by simp; exact ⟨.refl _, .refl _⟩) (by simp)) ?_
      repeat' (first | ((first | refine awp_seq' fun k hk => awp_region (et := Try.et) Try.vtOK Try.etOK ?_ | refine awp_region (et := Try.et) Try.vtOK Try.etOK ?_); simp (maxSteps := 5000000) (disch := first | (intro _; intros; contradiction) | omega) [i64_in, u8_in, u64_in, vgd_t, vgd_f, wgd_t, wgd_f, i64_quo, u8_quo, Int.tmod_eq_emod_of_nonneg, hq1, hq2]; (repeat (refine ⟨(by first | omega | assumption), ?_⟩)); (repeat ((first | refine vcall_fn rfl (by simp) (LeTs.refl _) (cb) ?_ | refine vcall_fn rfl (by simp) (LeTs.refl _) (ce) ?_ | refine vcall_fn rfl (by simp) (LeTs.refl _) (ce2) ?_); simp (maxSteps := 5000000) (disch := first | (intro _; intros; contradiction) | omega) [i64_in, u8_in, u64_in, vgd_t, vgd_f, wgd_t, wgd_f, i64_quo, u8_quo, Int.tmod_eq_emod_of_nonneg, hq1, hq2]; (repeat (refine ⟨(by first | omega | assumption), ?_⟩)))); (first | (refine hk _ ?_; clear hk; (try clear k)) | (clear hk; (try clear k); refine hk _ ?_; clear hk; (try clear k)) | (clear hk; (try clear k); clear hk; (try clear k); refine hk _ ?_; clear hk; (try clear k)) | (clear hk; (try clear k); clear hk; (try clear k); clear hk; (try clear k); refine hk _ ?_; clear hk; (try clear k)))) | ((first | refine awp_seq' fun k hk => awp_region_draw (et := Try.et) Try.mixed Try.vtOK Try.etOK ?_ | refine awp_region_draw (et := Try.et) Try.mixed Try.vtOK Try.etOK ?_); simp (maxSteps := 5000000) (disch := first | (intro _; intros; contradiction) | omega) [i64_in, u8_in, u64_in, vgd_t, vgd_f, wgd_t, wgd_f, i64_quo, u8_quo, Int.tmod_eq_emod_of_nonneg, hq1, hq2]; (repeat (refine ⟨(by first | omega | assumption), ?_⟩)); (repeat ((first | refine wcall_fn rfl (by simp) (LeTs.refl _) (cb) ?_ | refine wcall_fn rfl (by simp) (LeTs.refl _) (ce) ?_ | refine wcall_fn rfl (by simp) (LeTs.refl _) (ce2) ?_); simp (maxSteps := 5000000) (disch := first | (intro _; intros; contradiction) | omega) [i64_in, u8_in, u64_in, vgd_t, vgd_f, wgd_t, wgd_f, i64_quo, u8_quo, Int.tmod_eq_emod_of_nonneg, hq1, hq2]; (repeat (refine ⟨(by first | omega | assumption), ?_⟩)))); refine ⟨by kernel_rfl, ?_⟩; (first | (refine hk _ ?_; clear hk; (try clear k)) | (clear hk; (try clear k); refine hk _ ?_; clear hk; (try clear k)) | (clear hk; (try clear k); clear hk; (try clear k); refine hk _ ?_; clear hk; (try clear k)) | (clear hk; (try clear k); clear hk; (try clear k); clear hk; (try clear k); refine hk _ ?_; clear hk; (try clear k)))) | (refine awp_cond rfl rfl (fun hc => ?_) (fun hc => ?_) <;> first | (exfalso; simp at hc; done) | (simp at hc) | skip) | (refine awp_skip ?_; (first | (refine hk _ ?_; clear hk; (try clear k)) | (clear hk; (try clear k); refine hk _ ?_; clear hk; (try clear k)) | (clear hk; (try clear k); clear hk; (try clear k); refine hk _ ?_; clear hk; (try clear k)) | (clear hk; (try clear k); clear hk; (try clear k); clear hk; (try clear k); refine hk _ ?_; clear hk; (try clear k)))) | (refine awp_ret ⟨.inr rfl, ?_⟩; (try simp [hq1, hq2])) | (refine awp_seq' fun k hk => ?_) | (refine awp_block ?_))
      refine awp_region (et := Try.et) Try.vtOK Try.etOK ?_
      simp (maxSteps := 5000000) (disch := first | (intro _; intros; contradiction) | omega) [i64_in, u8_in, u64_in, vgd_t, vgd_f, wgd_t, wgd_f, i64_quo, u8_quo, Int.tmod_eq_emod_of_nonneg, hq1, hq2]
      refine ⟨by omega, ?_⟩
      refine vcall_fn rfl (by simp) ?_ cv ?_
      · simp
        refine LeD.ext fun j hj => ?_
        simp [hw2 j hj]
      simp (maxSteps := 5000000) (disch := first | (intro _; intros; contradiction) | omega) [i64_in, u8_in, u64_in, vgd_t, vgd_f, wgd_t, wgd_f, i64_quo, u8_quo, Int.tmod_eq_emod_of_nonneg]
      (first | (refine hk _ ?_; clear hk; (try clear k)) | (clear hk; (try clear k); refine hk _ ?_; clear hk; (try clear k)) | (clear hk; (try clear k); clear hk; (try clear k); refine hk _ ?_; clear hk; (try clear k)) | (clear hk; (try clear k); clear hk; (try clear k); clear hk; (try clear k); refine hk _ ?_; clear hk; (try clear k)))
      repeat' (first | ((first | refine awp_seq' fun k hk => awp_region (et := Try.et) Try.vtOK Try.etOK ?_ | refine awp_region (et := Try.et) Try.vtOK Try.etOK ?_); simp (maxSteps := 5000000) (disch := first | (intro _; intros; contradiction) | omega) [i64_in, u8_in, u64_in, vgd_t, vgd_f, wgd_t, wgd_f, i64_quo, u8_quo, Int.tmod_eq_emod_of_nonneg]; (repeat (refine ⟨(by first | omega | assumption), ?_⟩)); skip; (first | (refine hk _ ?_; clear hk; (try clear k)) | (clear hk; (try clear k); refine hk _ ?_; clear hk; (try clear k)) | (clear hk; (try clear k); clear hk; (try clear k); refine hk _ ?_; clear hk; (try clear k)) | (clear hk; (try clear k); clear hk; (try clear k); clear hk; (try clear k); refine hk _ ?_; clear hk; (try clear k)))) | ((first | refine awp_seq' fun k hk => awp_region_draw (et := Try.et) Try.mixed Try.vtOK Try.etOK ?_ | refine awp_region_draw (et := Try.et) Try.mixed Try.vtOK Try.etOK ?_); simp (maxSteps := 5000000) (disch := first | (intro _; intros; contradiction) | omega) [i64_in, u8_in, u64_in, vgd_t, vgd_f, wgd_t, wgd_f, i64_quo, u8_quo, Int.tmod_eq_emod_of_nonneg]; (repeat (refine ⟨(by first | omega | assumption), ?_⟩)); skip; refine ⟨by kernel_rfl, ?_⟩; (first | (refine hk _ ?_; clear hk; (try clear k)) | (clear hk; (try clear k); refine hk _ ?_; clear hk; (try clear k)) | (clear hk; (try clear k); clear hk; (try clear k); refine hk _ ?_; clear hk; (try clear k)) | (clear hk; (try clear k); clear hk; (try clear k); clear hk; (try clear k); refine hk _ ?_; clear hk; (try clear k)))) | (refine awp_cond rfl rfl (fun hc => ?_) (fun hc => ?_) <;> first | (exfalso; simp at hc; done) | (simp at hc) | skip) | (refine awp_skip ?_; (first | (refine hk _ ?_; clear hk; (try clear k)) | (clear hk; (try clear k); refine hk _ ?_; clear hk; (try clear k)) | (clear hk; (try clear k); clear hk; (try clear k); refine hk _ ?_; clear hk; (try clear k)) | (clear hk; (try clear k); clear hk; (try clear k); clear hk; (try clear k); refine hk _ ?_; clear hk; (try clear k)))) | (refine awp_ret ⟨.inr rfl, ?_⟩; (try simp [])) | (refine awp_seq' fun k hk => ?_) | (refine awp_block ?_))
      refine awp_for (fun q s => ∃ i : Nat, q = n.drive.length - i ∧ i ≤ n.drive.length ∧ s = ⟨[(12, tI .i64 i), (11, .c (.d (dB w))), (10, .c (.d (dB v))), (9, .c (.d (dB xs))), (7, .c (.ptr 112 0)), (6, .c (.ptr 96 0)), (5, tB true), (3, .c (.ptr 48 0))], [(112, .box false n.neg.c_), (96, .box false n.c_), (48, .box false z.c_)]⟩) (n.drive.length) (weak_mk (by simp) (by simp <;> first | exact lit rfl | exact .refl _ | exact .nil _) (by simp)) ⟨0, by simp, by simp, rfl⟩ ?_
      rintro q s ⟨i, rfl, hii, rfl⟩ kl hkl
      repeat' (first | ((first | refine awp_seq' fun k hk => awp_region (et := Try.et) Try.vtOK Try.etOK ?_ | refine awp_region (et := Try.et) Try.vtOK Try.etOK ?_); simp (maxSteps := 5000000) (disch := first | (intro _; intros; contradiction) | omega) [i64_in, u8_in, u64_in, vgd_t, vgd_f, wgd_t, wgd_f, i64_quo, u8_quo, Int.tmod_eq_emod_of_nonneg]; (repeat (refine ⟨(by first | omega | assumption), ?_⟩)); skip; (first | (refine hk _ ?_; clear hk; (try clear k)) | (clear hk; (try clear k); refine hk _ ?_; clear hk; (try clear k)) | (clear hk; (try clear k); clear hk; (try clear k); refine hk _ ?_; clear hk; (try clear k)) | (clear hk; (try clear k); clear hk; (try clear k); clear hk; (try clear k); refine hk _ ?_; clear hk; (try clear k)))) | ((first | refine awp_seq' fun k hk => awp_region_draw (et := Try.et) Try.mixed Try.vtOK Try.etOK ?_ | refine awp_region_draw (et := Try.et) Try.mixed Try.vtOK Try.etOK ?_); simp (maxSteps := 5000000) (disch := first | (intro _; intros; contradiction) | omega) [i64_in, u8_in, u64_in, vgd_t, vgd_f, wgd_t, wgd_f, i64_quo, u8_quo, Int.tmod_eq_emod_of_nonneg]; (repeat (refine ⟨(by first | omega | assumption), ?_⟩)); skip; refine ⟨by kernel_rfl, ?_⟩; (first | (refine hk _ ?_; clear hk; (try clear k)) | (clear hk; (try clear k); refine hk _ ?_; clear hk; (try clear k)) | (clear hk; (try clear k); clear hk; (try clear k); refine hk _ ?_; clear hk; (try clear k)) | (clear hk; (try clear k); clear hk; (try clear k); clear hk; (try clear k); refine hk _ ?_; clear hk; (try clear k)))) | (refine awp_cond rfl rfl (fun hc => ?_) (fun hc => ?_) <;> first | (exfalso; simp at hc; done) | (simp at hc) | skip) | (refine awp_skip ?_; (first | (refine hk _ ?_; clear hk; (try clear k)) | (clear hk; (try clear k); refine hk _ ?_; clear hk; (try clear k)) | (clear hk; (try clear k); clear hk; (try clear k); refine hk _ ?_; clear hk; (try clear k)) | (clear hk; (try clear k); clear hk; (try clear k); clear hk; (try clear k); refine hk _ ?_; clear hk; (try clear k)))) | (refine awp_ret ⟨.inr rfl, ?_⟩; (try simp [])) | (refine awp_seq' fun k hk => ?_) | (refine awp_block ?_))
      · obtain ⟨d0, d1⟩ := hd2 i hc
        have h3 := hw3 i hc
        have hde : n.drive[i]?.getD 0 = n.drive[i] := by simp [hc]
        rw [hde] at d0 d1 h3
        generalize hdd : n.drive[i] = d at *
        have hc' : i < n.neg.drive.length := by omega
        have hme : n.neg.drive[i] = 2 + (n.ins.length : Int) + n.gates.length + i := by simp [Nt.neg]
        have lv : d.toNat < v.length := by omega
        have lw : (2 + (n.ins.length : Int) + n.gates.length + i).toNat < w.length := by omega
        have hwe : w[(2 + (n.ins.length : Int) + n.gates.length + i).toNat] = !v[d.toNat] := by
          have e : (2 + (n.ins.length : Int) + n.gates.length + i).toNat = v.length + i := by omega
          simp only [e]
          rw [List.getElem?_eq_getElem (by omega), List.getElem?_eq_getElem lv] at h3
          simpa using h3
        repeat' (first | ((first | refine awp_seq' fun k hk => awp_region (et := Try.et) Try.vtOK Try.etOK ?_ | refine awp_region (et := Try.et) Try.vtOK Try.etOK ?_); simp (maxSteps := 5000000) (disch := first | (intro _; intros; contradiction) | omega) [i64_in, u8_in, u64_in, vgd_t, vgd_f, wgd_t, wgd_f, i64_quo, u8_quo, Int.tmod_eq_emod_of_nonneg, hdd, hme, hwe]; (repeat (refine ⟨(by first | omega | assumption), ?_⟩)); skip; (first | (refine hk _ ?_; clear hk; (try clear k)) | (clear hk; (try clear k); refine hk _ ?_; clear hk; (try clear k)) | (clear hk; (try clear k); clear hk; (try clear k); refine hk _ ?_; clear hk; (try clear k)) | (clear hk; (try clear k); clear hk; (try clear k); clear hk; (try clear k); refine hk _ ?_; clear hk; (try clear k)))) | ((first | refine awp_seq' fun k hk => awp_region_draw (et := Try.et) Try.mixed Try.vtOK Try.etOK ?_ | refine awp_region_draw (et := Try.et) Try.mixed Try.vtOK Try.etOK ?_); simp (maxSteps := 5000000) (disch := first | (intro _; intros; contradiction) | omega) [i64_in, u8_in, u64_in, vgd_t, vgd_f, wgd_t, wgd_f, i64_quo, u8_quo, Int.tmod_eq_emod_of_nonneg, hdd, hme, hwe]; (repeat (refine ⟨(by first | omega | assumption), ?_⟩)); skip; refine ⟨by kernel_rfl, ?_⟩; (first | (refine hk _ ?_; clear hk; (try clear k)) | (clear hk; (try clear k); refine hk _ ?_; clear hk; (try clear k)) | (clear hk; (try clear k); clear hk; (try clear k); refine hk _ ?_; clear hk; (try clear k)) | (clear hk; (try clear k); clear hk; (try clear k); clear hk; (try clear k); refine hk _ ?_; clear hk; (try clear k)))) | (refine awp_cond rfl rfl (fun hc => ?_) (fun hc => ?_) <;> first | (exfalso; simp at hc; done) | (simp at hc) | skip) | (refine awp_skip ?_; (first | (refine hk _ ?_; clear hk; (try clear k)) | (clear hk; (try clear k); refine hk _ ?_; clear hk; (try clear k)) | (clear hk; (try clear k); clear hk; (try clear k); refine hk _ ?_; clear hk; (try clear k)) | (clear hk; (try clear k); clear hk; (try clear k); clear hk; (try clear k); refine hk _ ?_; clear hk; (try clear k)))) | (refine awp_ret ⟨.inr rfl, ?_⟩; (try simp [hdd, hme, hwe])) | (refine awp_seq' fun k hk => ?_) | (refine awp_block ?_))
        all_goals
          refine awp_region (et := Try.et) Try.vtOK Try.etOK ?_
          simp (maxSteps := 5000000) (disch := first | (intro _; intros; contradiction) | omega) [i64_in, u8_in, vgd_t, vgd_f, wgd_t, wgd_f]
          refine hkl _ _ _ (by omega) ⟨i + 1, rfl, by omega, rfl⟩ (weak_mk (by simp) ?_ (by simp)); (try simp)
      · refine awp_exit ?_; simp at hc ⊢; clear hkl; obtain rfl : i = n.drive.length := (by omega); (first | (refine hk _ ?_; clear hk; (try clear k)) | (clear hk; (try clear k); refine hk _ ?_; clear hk; (try clear k)) | (clear hk; (try clear k); clear hk; (try clear k); refine hk _ ?_; clear hk; (try clear k)) | (clear hk; (try clear k); clear hk; (try clear k); clear hk; (try clear k); refine hk _ ?_; clear hk; (try clear k)))
        repeat' (first | ((first | refine awp_seq' fun k hk => awp_region (et := Try.et) Try.vtOK Try.etOK ?_ | refine awp_region (et := Try.et) Try.vtOK Try.etOK ?_); simp (maxSteps := 5000000) (disch := first | (intro _; intros; contradiction) | omega) [i64_in, u8_in, u64_in, vgd_t, vgd_f, wgd_t, wgd_f, i64_quo, u8_quo, Int.tmod_eq_emod_of_nonneg, andV_255, ← hkk]; (repeat (refine ⟨(by first | omega | assumption), ?_⟩)); (repeat ((first | refine vcall_fn rfl (by simp) (LeTs.refl _) (cs) ?_ | refine vcall_fn rfl (by simp) (LeTs.refl _) (cs2) ?_ | refine vcall_fn rfl (by simp) (LeTs.refl _) (ct) ?_); simp (maxSteps := 5000000) (disch := first | (intro _; intros; contradiction) | omega) [i64_in, u8_in, u64_in, vgd_t, vgd_f, wgd_t, wgd_f, i64_quo, u8_quo, Int.tmod_eq_emod_of_nonneg, andV_255, ← hkk]; (repeat (refine ⟨(by first | omega | assumption), ?_⟩)))); (first | (refine hk _ ?_; clear hk; (try clear k)) | (clear hk; (try clear k); refine hk _ ?_; clear hk; (try clear k)) | (clear hk; (try clear k); clear hk; (try clear k); refine hk _ ?_; clear hk; (try clear k)) | (clear hk; (try clear k); clear hk; (try clear k); clear hk; (try clear k); refine hk _ ?_; clear hk; (try clear k)))) | ((first | refine awp_seq' fun k hk => awp_region_draw (et := Try.et) Try.mixed Try.vtOK Try.etOK ?_ | refine awp_region_draw (et := Try.et) Try.mixed Try.vtOK Try.etOK ?_); simp (maxSteps := 5000000) (disch := first | (intro _; intros; contradiction) | omega) [i64_in, u8_in, u64_in, vgd_t, vgd_f, wgd_t, wgd_f, i64_quo, u8_quo, Int.tmod_eq_emod_of_nonneg, andV_255, ← hkk]; (repeat (refine ⟨(by first | omega | assumption), ?_⟩)); (repeat ((first | refine wcall_fn rfl (by simp) (LeTs.refl _) (cs) ?_ | refine wcall_fn rfl (by simp) (LeTs.refl _) (cs2) ?_ | refine wcall_fn rfl (by simp) (LeTs.refl _) (ct) ?_); simp (maxSteps := 5000000) (disch := first | (intro _; intros; contradiction) | omega) [i64_in, u8_in, u64_in, vgd_t, vgd_f, wgd_t, wgd_f, i64_quo, u8_quo, Int.tmod_eq_emod_of_nonneg, andV_255, ← hkk]; (repeat (refine ⟨(by first | omega | assumption), ?_⟩)))); refine ⟨by kernel_rfl, ?_⟩; (first | (refine hk _ ?_; clear hk; (try clear k)) | (clear hk; (try clear k); refine hk _ ?_; clear hk; (try clear k)) | (clear hk; (try clear k); clear hk; (try clear k); refine hk _ ?_; clear hk; (try clear k)) | (clear hk; (try clear k); clear hk; (try clear k); clear hk; (try clear k); refine hk _ ?_; clear hk; (try clear k)))) | (refine awp_cond rfl rfl (fun hc => ?_) (fun hc => ?_) <;> first | (exfalso; simp at hc; done) | (simp at hc) | skip) | (refine awp_skip ?_; (first | (refine hk _ ?_; clear hk; (try clear k)) | (clear hk; (try clear k); refine hk _ ?_; clear hk; (try clear k)) | (clear hk; (try clear k); clear hk; (try clear k); refine hk _ ?_; clear hk; (try clear k)) | (clear hk; (try clear k); clear hk; (try clear k); clear hk; (try clear k); refine hk _ ?_; clear hk; (try clear k)))) | (refine awp_ret ⟨.inr rfl, ?_⟩; (try simp [andV_255, ← hkk])) | (refine awp_seq' fun k hk => ?_) | (refine awp_block ?_))
end Go.Proofs
