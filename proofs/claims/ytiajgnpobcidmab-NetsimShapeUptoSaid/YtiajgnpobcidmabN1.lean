/- NQ: nets, and how they are evaluated, in plain Lean. -/
import Derived.Test.YtiajgnpobcidmabVa
import Derived.Test.YtiajgnpobcidmabVb
import Derived.Test.YtiajgnpobcidmabVc
import Derived.Test.YtiajgnpobcidmabVd
import Derived.Test.YtiajgnpobcidmabT
set_option linter.unusedSimpArgs false
set_option linter.unusedVariables false

namespace Go.Proofs
open Go.V
/-- A gate. -/
structure Ga where
  op : Int
  a : Int
  b : Int
  c : Int
  n : Int
instance : Inhabited Ga := ⟨⟨0, 0, 0, 0, 0⟩⟩
/-- A wire. -/
structure Wi where
  kind : Int
  i : Int
  bit : Int
instance : Inhabited Wi := ⟨⟨0, 0, 0⟩⟩
@[simp] def Ga.c_ (g : Ga) : List D := [.s (.int .i64 g.op), .s (.int .i64 g.a), .s (.int .i64 g.b), .s (.int .i64 g.c), .s (.int .i64 g.n)]
@[simp] def Wi.c_ (g : Wi) : List D := [.s (.int .i64 g.kind), .s (.int .i64 g.i), .s (.int .i64 g.bit)]
def dG (xs : List Ga) : D := .l xs.length fun j => (xs[j]?.getD default).c_
def dW (xs : List Wi) : D := .l xs.length fun j => (xs[j]?.getD default).c_
def dLL (xs : List (List Int)) : D := .l xs.length fun j => [dL (xs[j]?.getD [])]
def dH (xs : List (Bool × Int)) : D := .l xs.length fun j => [.s (.bool (xs[j]?.getD (false, 0)).1), .s (.int .i64 (xs[j]?.getD (false, 0)).2)]
structure Nt where
  ins : List Wi
  gates : List Ga
  outs : List Wi
  drive : List Int
@[simp] def Nt.c_ (x : Nt) : List C := [.d (dW x.ins), .d (dG x.gates), .d (dW x.outs), .d (dL x.drive)]

def hasB (v bit : Int) : Bool := andV .i64 (shrV .i64 v bit) 1 == 1
def rdB (ms : List (List Int)) (n i : Int) : Bool :=
  decide (n / 8 < ms.length) && (decide (i < (ms[(n / 8).toNat]?.getD []).length) && hasB ((ms[(n / 8).toNat]?.getD [])[i.toNat]?.getD 0) (n % 8))
def numI (bs : List Bool) : Nat → Int
  | 0 => 0
  | i + 1 => if bs[i]?.getD false then orV .i64 (numI bs i) (shlV .i64 1 i) else numI bs i
/-- The value of a gate that reads no memory. -/
def opV (op : Int) (a b c : Bool) : Bool :=
  if op = 1 then !a else if op = 2 then a && b else if op = 3 then a || b else if op = 4 then a != b else if op = 5 then a && b || !a && c else a && (b || c) || b && c
def gateV (ms : List (List Int)) (v : List Bool) (g : Ga) : Bool :=
  if g.op = 7 then rdB ms g.n (numI [v[g.a.toNat]?.getD false, v[g.b.toNat]?.getD false, v[g.c.toNat]?.getD false] 3)
  else opV g.op (v[g.a.toNat]?.getD false) (v[g.b.toNat]?.getD false) (v[g.c.toNat]?.getD false)
def evI (gs : List Ga) (ms : List (List Int)) (v : List Bool) : Nat → List Bool
  | 0 => v
  | i + 1 => evI gs ms v i ++ [gateV ms (evI gs ms v i) (gs[i]?.getD default)]
theorem evI_length (gs : List Ga) (ms : List (List Int)) (v : List Bool) : ∀ i, (evI gs ms v i).length = v.length + i
  | 0 => rfl
  | i + 1 => by simp [evI, evI_length gs ms v i]; omega
/-- Gates that look back only. -/
def Ga.ok (g : Ga) (k : Nat) : Prop := 1 ≤ g.op ∧ g.op ≤ 7 ∧ 0 ≤ g.a ∧ g.a < k ∧ 0 ≤ g.b ∧ g.b < k ∧ 0 ≤ g.c ∧ g.c < k ∧ 0 ≤ g.n ∧ g.n < 9223372036854775808
attribute [simp] evSliceP
theorem numI3 (a b c : Bool) : 0 ≤ numI [a, b, c] 3 ∧ numI [a, b, c] 3 < 8 := by cases a <;> cases b <;> cases c <;> decide
@[simp high] theorem evLen_dG (tab : Tab) (st : St) (t : Nat) (xs : List Ga) : evLen tab st t (.c (.d (dG xs))) = evLen tab st t (.c (.d (.l xs.length fun j => (xs[j]?.getD default).c_))) := rfl
@[simp high] theorem evIndexAddr_dG (tab : Tab) (st : St) (t : Nat) (xs : List Ga) (y : T) : evIndexAddr tab st t (.c (.d (dG xs))) y = evIndexAddr tab st t (.c (.d (.l xs.length fun j => (xs[j]?.getD default).c_))) y := rfl
@[simp high] theorem evLen_dW (tab : Tab) (st : St) (t : Nat) (xs : List Wi) : evLen tab st t (.c (.d (dW xs))) = evLen tab st t (.c (.d (.l xs.length fun j => (xs[j]?.getD default).c_))) := rfl
@[simp high] theorem evIndexAddr_dW (tab : Tab) (st : St) (t : Nat) (xs : List Wi) (y : T) : evIndexAddr tab st t (.c (.d (dW xs))) y = evIndexAddr tab st t (.c (.d (.l xs.length fun j => (xs[j]?.getD default).c_))) y := rfl
@[simp high] theorem evLen_dLL (tab : Tab) (st : St) (t : Nat) (xs : List (List Int)) : evLen tab st t (.c (.d (dLL xs))) = evLen tab st t (.c (.d (.l xs.length fun j => [dL (xs[j]?.getD [])]))) := rfl
@[simp high] theorem evIndexAddr_dLL (tab : Tab) (st : St) (t : Nat) (xs : List (List Int)) (y : T) : evIndexAddr tab st t (.c (.d (dLL xs))) y = evIndexAddr tab st t (.c (.d (.l xs.length fun j => [dL (xs[j]?.getD [])]))) y := rfl
@[simp high] theorem evLen_dH (tab : Tab) (st : St) (t : Nat) (xs : List (Bool × Int)) : evLen tab st t (.c (.d (dH xs))) = evLen tab st t (.c (.d (.l xs.length fun j => [.s (.bool (xs[j]?.getD (false, 0)).1), .s (.int .i64 (xs[j]?.getD (false, 0)).2)]))) := rfl
@[simp high] theorem evIndexAddr_dH (tab : Tab) (st : St) (t : Nat) (xs : List (Bool × Int)) (y : T) : evIndexAddr tab st t (.c (.d (dH xs))) y = evIndexAddr tab st t (.c (.d (.l xs.length fun j => [.s (.bool (xs[j]?.getD (false, 0)).1), .s (.int .i64 (xs[j]?.getD (false, 0)).2)]))) y := rfl
@[simp ↓ high] theorem noLC_dB (xs : List Bool) : noLC (.d (dB xs)) = false := rfl
@[simp ↓ high] theorem noLC_dL (xs : List Int) : noLC (.d (dL xs)) = false := rfl
@[simp ↓ high] theorem noLC_dG (xs : List Ga) : noLC (.d (dG xs)) = false := rfl
@[simp ↓ high] theorem noLC_dW (xs : List Wi) : noLC (.d (dW xs)) = false := rfl
@[simp ↓ high] theorem noLC_dLL (xs : List (List Int)) : noLC (.d (dLL xs)) = false := rfl
@[simp ↓ high] theorem noLC_dH (xs : List (Bool × Int)) : noLC (.d (dH xs)) = false := rfl
/-- The value of an input. -/
def inV (regs : List Int) (heads : List (Bool × Int)) (rooms : List Bool) (w : Wi) : Bool :=
  if w.kind = 1 ∧ w.i < regs.length then hasB (regs[w.i.toNat]?.getD 0) w.bit
  else if w.kind = 2 ∧ w.i < heads.length then (heads[w.i.toNat]?.getD (false, 0)).1 && hasB (heads[w.i.toNat]?.getD (false, 0)).2 w.bit
  else if w.kind = 3 ∧ w.i < heads.length then (heads[w.i.toNat]?.getD (false, 0)).1
  else if w.kind = 4 ∧ w.i < rooms.length then rooms[w.i.toNat]?.getD false
  else false
end Go.Proofs

namespace Go.Proofs
open Go.V IntWalk
set_option maxRecDepth 100000
set_option linter.unusedSimpArgs false
set_option linter.unusedVariables false

theorem netsim_has_S (v bit : Int) (h : 0 ≤ bit) : FSpec Try.prog 77 [tI .i64 v, tI .i64 bit] [] (tB (hasB v bit)) [] := by
  refine fspec_intro Try.func77 (by kernel_rfl) rfl Try.vtOK rfl Try.ntmps77 (by simp) ?_
  refine awp_seq' fun k hk => awp_region (et := Try.et) Try.vtOK Try.etOK ?_
  simp (maxSteps := 5000000) (disch := first | (intro _; intros; contradiction) | omega) [i64_in, u8_in, vgd_t, vgd_f, wgd_t, wgd_f]
  (first | (refine hk _ ?_; clear hk; (try clear k)) | (clear hk; (try clear k); refine hk _ ?_; clear hk; (try clear k)) | (clear hk; (try clear k); clear hk; (try clear k); refine hk _ ?_; clear hk; (try clear k)) | (clear hk; (try clear k); clear hk; (try clear k); clear hk; (try clear k); refine hk _ ?_; clear hk; (try clear k)))
  refine awp_seq' fun k hk => awp_region (et := Try.et) Try.vtOK Try.etOK ?_
  simp (maxSteps := 5000000) (disch := first | (intro _; intros; contradiction) | omega) [i64_in, u8_in, vgd_t, vgd_f, wgd_t, wgd_f]
  refine ⟨h, ?_⟩
  (first | (refine hk _ ?_; clear hk; (try clear k)) | (clear hk; (try clear k); refine hk _ ?_; clear hk; (try clear k)) | (clear hk; (try clear k); clear hk; (try clear k); refine hk _ ?_; clear hk; (try clear k)) | (clear hk; (try clear k); clear hk; (try clear k); clear hk; (try clear k); refine hk _ ?_; clear hk; (try clear k)))
  refine awp_ret ⟨.inr rfl, ?_⟩
  simp [hasB]

theorem op1_S (a b c : Bool) : FSpec Try.prog 84 [tB a, tB b, tB c] [] (tB (opV 1 a b c)) [] := by
  refine fspec_intro Try.func84 (by kernel_rfl) rfl Try.vtOK rfl Try.ntmps84 (by simp) ?_
  refine awp_seq' fun k hk => awp_region (et := Try.et) Try.vtOK Try.etOK ?_
  simp (maxSteps := 5000000) (disch := first | (intro _; intros; contradiction) | omega) [i64_in, u8_in, vgd_t, vgd_f, wgd_t, wgd_f]
  (first | (refine hk _ ?_; clear hk; (try clear k)) | (clear hk; (try clear k); refine hk _ ?_; clear hk; (try clear k)) | (clear hk; (try clear k); clear hk; (try clear k); refine hk _ ?_; clear hk; (try clear k)) | (clear hk; (try clear k); clear hk; (try clear k); clear hk; (try clear k); refine hk _ ?_; clear hk; (try clear k)))
  refine awp_seq' fun k hk => awp_region (et := Try.et) Try.vtOK Try.etOK ?_
  simp (maxSteps := 5000000) (disch := first | (intro _; intros; contradiction) | omega) [i64_in, u8_in, vgd_t, vgd_f, wgd_t, wgd_f]
  (first | (refine hk _ ?_; clear hk; (try clear k)) | (clear hk; (try clear k); refine hk _ ?_; clear hk; (try clear k)) | (clear hk; (try clear k); clear hk; (try clear k); refine hk _ ?_; clear hk; (try clear k)) | (clear hk; (try clear k); clear hk; (try clear k); clear hk; (try clear k); refine hk _ ?_; clear hk; (try clear k)))
  refine awp_ret ⟨.inr rfl, ?_⟩
  simp [opV]
theorem op4_S (a b c : Bool) : FSpec Try.prog 87 [tB a, tB b, tB c] [] (tB (opV 4 a b c)) [] := by
  refine fspec_intro Try.func87 (by kernel_rfl) rfl Try.vtOK rfl Try.ntmps87 (by simp) ?_
  refine awp_seq' fun k hk => awp_region (et := Try.et) Try.vtOK Try.etOK ?_
  simp (maxSteps := 5000000) (disch := first | (intro _; intros; contradiction) | omega) [i64_in, u8_in, vgd_t, vgd_f, wgd_t, wgd_f]
  (first | (refine hk _ ?_; clear hk; (try clear k)) | (clear hk; (try clear k); refine hk _ ?_; clear hk; (try clear k)) | (clear hk; (try clear k); clear hk; (try clear k); refine hk _ ?_; clear hk; (try clear k)) | (clear hk; (try clear k); clear hk; (try clear k); clear hk; (try clear k); refine hk _ ?_; clear hk; (try clear k)))
  refine awp_seq' fun k hk => awp_region (et := Try.et) Try.vtOK Try.etOK ?_
  simp (maxSteps := 5000000) (disch := first | (intro _; intros; contradiction) | omega) [i64_in, u8_in, vgd_t, vgd_f, wgd_t, wgd_f]
  (first | (refine hk _ ?_; clear hk; (try clear k)) | (clear hk; (try clear k); refine hk _ ?_; clear hk; (try clear k)) | (clear hk; (try clear k); clear hk; (try clear k); refine hk _ ?_; clear hk; (try clear k)) | (clear hk; (try clear k); clear hk; (try clear k); clear hk; (try clear k); refine hk _ ?_; clear hk; (try clear k)))
  refine awp_ret ⟨.inr rfl, ?_⟩
  cases a <;> cases b <;> simp [opV]
theorem op2_S (a b c : Bool) : FSpec Try.prog 85 [tB a, tB b, tB c] [] (tB (opV 2 a b c)) [] := by
  refine fspec_intro Try.func85 (by kernel_rfl) rfl Try.vtOK rfl Try.ntmps85 (by simp) ?_
  refine awp_seq' fun k hk => awp_region (et := Try.et) Try.vtOK Try.etOK ?_
  simp (maxSteps := 5000000) (disch := first | (intro _; intros; contradiction) | omega) [i64_in, u8_in, vgd_t, vgd_f, wgd_t, wgd_f]
  (first | (refine hk _ ?_; clear hk; (try clear k)) | (clear hk; (try clear k); refine hk _ ?_; clear hk; (try clear k)) | (clear hk; (try clear k); clear hk; (try clear k); refine hk _ ?_; clear hk; (try clear k)) | (clear hk; (try clear k); clear hk; (try clear k); clear hk; (try clear k); refine hk _ ?_; clear hk; (try clear k)))
  refine awp_seq' fun k hk => awp_region (et := Try.et) Try.vtOK Try.etOK ?_
  cases a
  all_goals
    simp (maxSteps := 5000000) (disch := first | (intro _; intros; contradiction) | omega) [i64_in, u8_in, vgd_t, vgd_f, wgd_t, wgd_f]
    (first | (refine hk _ ?_; clear hk; (try clear k)) | (clear hk; (try clear k); refine hk _ ?_; clear hk; (try clear k)) | (clear hk; (try clear k); clear hk; (try clear k); refine hk _ ?_; clear hk; (try clear k)) | (clear hk; (try clear k); clear hk; (try clear k); clear hk; (try clear k); refine hk _ ?_; clear hk; (try clear k)))
    refine awp_ret ⟨.inr rfl, ?_⟩
    simp [opV]
theorem op3_S (a b c : Bool) : FSpec Try.prog 86 [tB a, tB b, tB c] [] (tB (opV 3 a b c)) [] := by
  refine fspec_intro Try.func86 (by kernel_rfl) rfl Try.vtOK rfl Try.ntmps86 (by simp) ?_
  refine awp_seq' fun k hk => awp_region (et := Try.et) Try.vtOK Try.etOK ?_
  simp (maxSteps := 5000000) (disch := first | (intro _; intros; contradiction) | omega) [i64_in, u8_in, vgd_t, vgd_f, wgd_t, wgd_f]
  (first | (refine hk _ ?_; clear hk; (try clear k)) | (clear hk; (try clear k); refine hk _ ?_; clear hk; (try clear k)) | (clear hk; (try clear k); clear hk; (try clear k); refine hk _ ?_; clear hk; (try clear k)) | (clear hk; (try clear k); clear hk; (try clear k); clear hk; (try clear k); refine hk _ ?_; clear hk; (try clear k)))
  refine awp_seq' fun k hk => awp_region (et := Try.et) Try.vtOK Try.etOK ?_
  cases a
  all_goals
    simp (maxSteps := 5000000) (disch := first | (intro _; intros; contradiction) | omega) [i64_in, u8_in, vgd_t, vgd_f, wgd_t, wgd_f]
    (first | (refine hk _ ?_; clear hk; (try clear k)) | (clear hk; (try clear k); refine hk _ ?_; clear hk; (try clear k)) | (clear hk; (try clear k); clear hk; (try clear k); refine hk _ ?_; clear hk; (try clear k)) | (clear hk; (try clear k); clear hk; (try clear k); clear hk; (try clear k); refine hk _ ?_; clear hk; (try clear k)))
    refine awp_ret ⟨.inr rfl, ?_⟩
    simp [opV]
theorem op5_S (a b c : Bool) : FSpec Try.prog 88 [tB a, tB b, tB c] [] (tB (opV 5 a b c)) [] := by
  refine fspec_intro Try.func88 (by kernel_rfl) rfl Try.vtOK rfl Try.ntmps88 (by simp) ?_
  refine awp_seq' fun k hk => awp_region (et := Try.et) Try.vtOK Try.etOK ?_
  simp (maxSteps := 5000000) (disch := first | (intro _; intros; contradiction) | omega) [i64_in, u8_in, vgd_t, vgd_f, wgd_t, wgd_f]
  (first | (refine hk _ ?_; clear hk; (try clear k)) | (clear hk; (try clear k); refine hk _ ?_; clear hk; (try clear k)) | (clear hk; (try clear k); clear hk; (try clear k); refine hk _ ?_; clear hk; (try clear k)) | (clear hk; (try clear k); clear hk; (try clear k); clear hk; (try clear k); refine hk _ ?_; clear hk; (try clear k)))
  refine awp_seq' fun k hk => awp_region (et := Try.et) Try.vtOK Try.etOK ?_
  cases a <;> cases b
  all_goals
    simp (maxSteps := 5000000) (disch := first | (intro _; intros; contradiction) | omega) [i64_in, u8_in, vgd_t, vgd_f, wgd_t, wgd_f]
    (first | (refine hk _ ?_; clear hk; (try clear k)) | (clear hk; (try clear k); refine hk _ ?_; clear hk; (try clear k)) | (clear hk; (try clear k); clear hk; (try clear k); refine hk _ ?_; clear hk; (try clear k)) | (clear hk; (try clear k); clear hk; (try clear k); clear hk; (try clear k); refine hk _ ?_; clear hk; (try clear k)))
    refine awp_ret ⟨.inr rfl, ?_⟩
    simp [opV]
theorem op6_S (a b c : Bool) : FSpec Try.prog 89 [tB a, tB b, tB c] [] (tB (opV 6 a b c)) [] := by
  refine fspec_intro Try.func89 (by kernel_rfl) rfl Try.vtOK rfl Try.ntmps89 (by simp) ?_
  refine awp_seq' fun k hk => awp_region (et := Try.et) Try.vtOK Try.etOK ?_
  simp (maxSteps := 5000000) (disch := first | (intro _; intros; contradiction) | omega) [i64_in, u8_in, vgd_t, vgd_f, wgd_t, wgd_f]
  (first | (refine hk _ ?_; clear hk; (try clear k)) | (clear hk; (try clear k); refine hk _ ?_; clear hk; (try clear k)) | (clear hk; (try clear k); clear hk; (try clear k); refine hk _ ?_; clear hk; (try clear k)) | (clear hk; (try clear k); clear hk; (try clear k); clear hk; (try clear k); refine hk _ ?_; clear hk; (try clear k)))
  refine awp_seq' fun k hk => awp_region (et := Try.et) Try.vtOK Try.etOK ?_
  cases a <;> cases b <;> cases c
  all_goals
    simp (maxSteps := 5000000) (disch := first | (intro _; intros; contradiction) | omega) [i64_in, u8_in, vgd_t, vgd_f, wgd_t, wgd_f]
    (first | (refine hk _ ?_; clear hk; (try clear k)) | (clear hk; (try clear k); refine hk _ ?_; clear hk; (try clear k)) | (clear hk; (try clear k); clear hk; (try clear k); refine hk _ ?_; clear hk; (try clear k)) | (clear hk; (try clear k); clear hk; (try clear k); clear hk; (try clear k); refine hk _ ?_; clear hk; (try clear k)))
    refine awp_ret ⟨.inr rfl, ?_⟩
    simp [opV]

theorem netsim_number_S (bs : List Bool) (h : bs.length < 60) : FSpec Try.prog 56 [.c (.d (dB bs))] [] (tI .i64 (numI bs bs.length)) [] := by
  refine fspec_intro Try.func56 (by kernel_rfl) rfl Try.vtOK rfl Try.ntmps56 (by simp) ?_
  refine awp_seq' fun k hk => awp_region (et := Try.et) Try.vtOK Try.etOK ?_
  simp (maxSteps := 5000000) (disch := first | (intro _; intros; contradiction) | omega) [i64_in, u8_in, vgd_t, vgd_f, wgd_t, wgd_f]
  (first | (refine hk _ ?_; clear hk; (try clear k)) | (clear hk; (try clear k); refine hk _ ?_; clear hk; (try clear k)) | (clear hk; (try clear k); clear hk; (try clear k); refine hk _ ?_; clear hk; (try clear k)) | (clear hk; (try clear k); clear hk; (try clear k); clear hk; (try clear k); refine hk _ ?_; clear hk; (try clear k)))
  refine awp_seq' fun k hk => awp_region (et := Try.et) Try.vtOK Try.etOK ?_
  simp (maxSteps := 5000000) (disch := first | (intro _; intros; contradiction) | omega) [i64_in, u8_in, vgd_t, vgd_f, wgd_t, wgd_f]
  (first | (refine hk _ ?_; clear hk; (try clear k)) | (clear hk; (try clear k); refine hk _ ?_; clear hk; (try clear k)) | (clear hk; (try clear k); clear hk; (try clear k); refine hk _ ?_; clear hk; (try clear k)) | (clear hk; (try clear k); clear hk; (try clear k); clear hk; (try clear k); refine hk _ ?_; clear hk; (try clear k)))
  refine awp_seq' fun k0 hk0 => ?_
  refine awp_seq' fun k1 hk1 => awp_region (et := Try.et) Try.vtOK Try.etOK ?_
  simp (maxSteps := 5000000) (disch := first | (intro _; intros; contradiction) | omega) [i64_in, u8_in, vgd_t, vgd_f, wgd_t, wgd_f]
  (refine hk1 _ ?_; clear hk1)
  have h00 : numI bs 0 = 0 := rfl
  refine awp_block (awp_for (fun n s => ∃ i : Nat, n = bs.length - i ∧ i ≤ bs.length ∧ s = ⟨[(8, tI .i64 i), (7, tI .i64 bs.length), (6, .c (.d (dB bs))), (3, tI .i64 (numI bs i))], []⟩) bs.length (weak_mk (by simp [h00]) (by simp) (by simp)) ⟨0, by simp, by simp, rfl⟩ ?_)
  rintro n s ⟨i, rfl, hi, rfl⟩ k hk
  refine awp_seq' fun k1 hk1 => awp_region (et := Try.et) Try.vtOK Try.etOK ?_
  simp (maxSteps := 5000000) (disch := first | (intro _; intros; contradiction) | omega) [i64_in, u8_in, vgd_t, vgd_f, wgd_t, wgd_f]
  (refine hk1 _ ?_; clear hk1)
  refine awp_seq' fun k1 hk1 => ?_
  refine awp_cond rfl rfl (fun hc => ?_) (fun hc => ?_)
  · refine awp_skip ?_
    (refine hk1 _ ?_; clear hk1)
    simp at hc
    refine awp_seq' fun k2 hk2 => ?_
    refine awp_block ?_
    refine awp_seq' fun k3 hk3 => awp_region (et := Try.et) Try.vtOK Try.etOK ?_
    simp (maxSteps := 5000000) (disch := first | (intro _; intros; contradiction) | omega) [i64_in, u8_in, vgd_t, vgd_f, wgd_t, wgd_f]
    refine ⟨by omega, ?_⟩
    (refine hk3 _ ?_; clear hk3)
    have h3 : ∀ s, Weak s ⟨[(8, tI .i64 i), (7, tI .i64 bs.length), (6, .c (.d (dB bs))), (3, tI .i64 (numI bs (i + 1)))], []⟩ → k2 s := by
      intro s hw
      refine hk2 s (awp_weak hw ?_)
      refine awp_region (et := Try.et) Try.vtOK Try.etOK ?_
      simp (maxSteps := 5000000) (disch := first | (intro _; intros; contradiction) | omega) [i64_in, u8_in, vgd_t, vgd_f, wgd_t, wgd_f]
      refine hk _ ⟨[(8, tI .i64 (i + 1 : Nat)), (7, tI .i64 bs.length), (6, .c (.d (dB bs))), (3, tI .i64 (numI bs (i + 1)))], []⟩ _ (by omega) ⟨i + 1, rfl, by omega, rfl⟩ (weak_mk (by simp) (by simp) (by simp))
    refine awp_seq' fun k4 hk4 => awp_region (et := Try.et) Try.vtOK Try.etOK ?_
    simp (maxSteps := 5000000) (disch := first | (intro _; intros; contradiction) | omega) [i64_in, u8_in, vgd_t, vgd_f, wgd_t, wgd_f]
    (refine hk4 _ ?_; clear hk4)
    refine awp_cond rfl rfl (fun hc4 => ?_) (fun hc4 => ?_)
    · refine awp_region (et := Try.et) Try.vtOK Try.etOK ?_
      simp (maxSteps := 5000000) (disch := first | (intro _; intros; contradiction) | omega) [i64_in, u8_in, vgd_t, vgd_f, wgd_t, wgd_f]
      have e : numI bs (i + 1) = orV .i64 (numI bs i) (shlV .i64 1 i) := by simp [numI, hc, hc4]
      rw [← e]
      exact h3 _ (weak_mk (by simp) (by simp) (by simp))
    · refine awp_skip ?_
      have e : numI bs (i + 1) = numI bs i := by simp [numI, hc, hc4]
      rw [← e]
      exact h3 _ (weak_mk (by simp) (by simp) (by simp))
  · refine awp_exit ?_
    simp at hc ⊢
    have : i = bs.length := by omega
    subst this
    (refine hk0 _ ?_; clear hk0)
    refine awp_seq' fun k4 hk4 => awp_region (et := Try.et) Try.vtOK Try.etOK ?_
    simp (maxSteps := 5000000) (disch := first | (intro _; intros; contradiction) | omega) [i64_in, u8_in, vgd_t, vgd_f, wgd_t, wgd_f]
    (refine hk4 _ ?_; clear hk4)
    refine awp_ret ⟨.inr rfl, ?_⟩
    simp

theorem netsim_read_S (ms : List (List Int)) (n i : Int) (hm : ms.length < 9223372036854775808) (hn : 0 ≤ n ∧ n < 9223372036854775808) (hi : 0 ≤ i) : FSpec Try.prog 55 [.c (.d (dLL ms)), tI .i64 n, tI .i64 i] [] (tB (rdB ms n i)) [] := by
  refine fspec_intro Try.func55 (by kernel_rfl) rfl Try.vtOK rfl Try.ntmps55 (by simp) ?_
  refine awp_seq' fun k hk => awp_region (et := Try.et) Try.vtOK Try.etOK ?_
  simp (maxSteps := 5000000) (disch := first | (intro _; intros; contradiction) | omega) [i64_in, u8_in, vgd_t, vgd_f, wgd_t, wgd_f]
  (first | (refine hk _ ?_; clear hk; (try clear k)) | (clear hk; (try clear k); refine hk _ ?_; clear hk; (try clear k)) | (clear hk; (try clear k); clear hk; (try clear k); refine hk _ ?_; clear hk; (try clear k)) | (clear hk; (try clear k); clear hk; (try clear k); clear hk; (try clear k); refine hk _ ?_; clear hk; (try clear k)))
  have e1 : n.tdiv 8 = n / 8 := Int.tdiv_eq_ediv_of_nonneg hn.1
  have e2 : n.tmod 8 = n % 8 := Int.tmod_eq_emod_of_nonneg hn.1
  refine awp_seq' fun k hk => awp_region (et := Try.et) Try.vtOK Try.etOK ?_
  simp (maxSteps := 5000000) (disch := first | (intro _; intros; contradiction) | omega) [i64_in, u8_in, vgd_t, vgd_f, wgd_t, wgd_f, e1, e2]
  refine ⟨fun h1 => ⟨by omega, fun h2 => ⟨by omega, by omega, ?_⟩, fun h2 => ?_⟩, fun h1 => ?_⟩
  · have e : rdB ms n i = hasB ((ms[(n / 8).toNat]?.getD [])[i.toNat]?.getD 0) (n % 8) := by simp only [rdB, decide_eq_true h1, decide_eq_true h2, Bool.true_and]
    generalize (ms[(n / 8).toNat]?.getD [])[i.toNat]?.getD 0 = v at e ⊢
    refine vcall_fn rfl (by simp) (LeTs.refl _) (netsim_has_S _ _ (by omega)) ?_
    simp (maxSteps := 5000000) (disch := first | (intro _; intros; contradiction) | omega) [i64_in, u8_in, vgd_t, vgd_f, wgd_t, wgd_f]
    (first | (refine hk _ ?_; clear hk; (try clear k)) | (clear hk; (try clear k); refine hk _ ?_; clear hk; (try clear k)) | (clear hk; (try clear k); clear hk; (try clear k); refine hk _ ?_; clear hk; (try clear k)) | (clear hk; (try clear k); clear hk; (try clear k); clear hk; (try clear k); refine hk _ ?_; clear hk; (try clear k)))
    rw [e]
    refine awp_ret ⟨.inr rfl, ?_⟩
    simp
  · (first | (refine hk _ ?_; clear hk; (try clear k)) | (clear hk; (try clear k); refine hk _ ?_; clear hk; (try clear k)) | (clear hk; (try clear k); clear hk; (try clear k); refine hk _ ?_; clear hk; (try clear k)) | (clear hk; (try clear k); clear hk; (try clear k); clear hk; (try clear k); refine hk _ ?_; clear hk; (try clear k)))
    refine awp_ret ⟨.inr rfl, ?_⟩
    have : ¬ i < ((ms[(n / 8).toNat]?.getD []).length : Int) := by omega
    simp [rdB, this]
  · (first | (refine hk _ ?_; clear hk; (try clear k)) | (clear hk; (try clear k); refine hk _ ?_; clear hk; (try clear k)) | (clear hk; (try clear k); clear hk; (try clear k); refine hk _ ?_; clear hk; (try clear k)) | (clear hk; (try clear k); clear hk; (try clear k); clear hk; (try clear k); refine hk _ ?_; clear hk; (try clear k)))
    refine awp_ret ⟨.inr rfl, ?_⟩
    have : ¬ n / 8 < (ms.length : Int) := by omega
    simp [rdB, this]
end Go.Proofs

namespace Go.Proofs
open Go.V IntWalk
set_option maxRecDepth 100000
set_option linter.unusedSimpArgs false
set_option linter.unusedVariables false

/-- The table of operators. -/
def opsC : List D := [.s (.int .i64 1), .s (.func (.func 84) #[] #[]), .s (.int .i64 2), .s (.func (.func 85) #[] #[]), .s (.int .i64 3), .s (.func (.func 86) #[] #[]), .s (.int .i64 4), .s (.func (.func 87) #[] #[]), .s (.int .i64 5), .s (.func (.func 88) #[] #[]), .s (.int .i64 6), .s (.func (.func 89) #[] #[])]

theorem netsim_operators_S : FSpec Try.prog 54 [] [] (.agg (opsC.map .d)) [] := by
  refine fspec_intro Try.func54 (by kernel_rfl) rfl Try.vtOK rfl Try.ntmps54 (by simp) ?_
  refine awp_seq' fun k hk => awp_region (et := Try.et) Try.vtOK Try.etOK ?_
  simp (maxSteps := 5000000) (disch := first | (intro _; intros; contradiction) | omega) [i64_in, u8_in, vgd_t, vgd_f, wgd_t, wgd_f]
  (first | (refine hk _ ?_; clear hk; (try clear k)) | (clear hk; (try clear k); refine hk _ ?_; clear hk; (try clear k)) | (clear hk; (try clear k); clear hk; (try clear k); refine hk _ ?_; clear hk; (try clear k)) | (clear hk; (try clear k); clear hk; (try clear k); clear hk; (try clear k); refine hk _ ?_; clear hk; (try clear k)))
  refine awp_seq' fun k hk => awp_region (et := Try.et) Try.vtOK Try.etOK ?_
  simp (maxSteps := 5000000) (disch := first | (intro _; intros; contradiction) | omega) [i64_in, u8_in, vgd_t, vgd_f, wgd_t, wgd_f]
  (first | (refine hk _ ?_; clear hk; (try clear k)) | (clear hk; (try clear k); refine hk _ ?_; clear hk; (try clear k)) | (clear hk; (try clear k); clear hk; (try clear k); refine hk _ ?_; clear hk; (try clear k)) | (clear hk; (try clear k); clear hk; (try clear k); clear hk; (try clear k); refine hk _ ?_; clear hk; (try clear k)))
  refine awp_ret ⟨.inr rfl, ?_⟩
  simp [opsC]

theorem netsim_Eval1_S (o : Int) (f : Value) (g : Ga) : FSpec Try.prog 58 [.agg [.d (.s (.int .i64 o)), .d (.s f)], .c (.ptr 1000000 0)] [(1000000, .box false (g.c_.map .d))] (tupOf [tB (o == g.op)]) [(1000000, .box false (g.c_.map .d))] := by
  refine fspec_introM (ma := _) Try.func58 (by kernel_rfl) rfl Try.vtOK rfl Try.ntmps58 (by simp) (by simp [lk_cons]) ?_
  refine awp_seq' fun k hk => awp_region (et := Try.et) Try.vtOK Try.etOK ?_
  simp (maxSteps := 5000000) (disch := first | (intro _; intros; contradiction) | omega) [i64_in, u8_in, vgd_t, vgd_f, wgd_t, wgd_f]
  (first | (refine hk _ ?_; clear hk; (try clear k)) | (clear hk; (try clear k); refine hk _ ?_; clear hk; (try clear k)) | (clear hk; (try clear k); clear hk; (try clear k); refine hk _ ?_; clear hk; (try clear k)) | (clear hk; (try clear k); clear hk; (try clear k); clear hk; (try clear k); refine hk _ ?_; clear hk; (try clear k)))
  refine awp_seq' fun k hk => awp_region (et := Try.et) Try.vtOK Try.etOK ?_
  simp (maxSteps := 5000000) (disch := first | (intro _; intros; contradiction) | omega) [i64_in, u8_in, vgd_t, vgd_f, wgd_t, wgd_f]
  (first | (refine hk _ ?_; clear hk; (try clear k)) | (clear hk; (try clear k); refine hk _ ?_; clear hk; (try clear k)) | (clear hk; (try clear k); clear hk; (try clear k); refine hk _ ?_; clear hk; (try clear k)) | (clear hk; (try clear k); clear hk; (try clear k); clear hk; (try clear k); refine hk _ ?_; clear hk; (try clear k)))
  refine awp_ret ⟨.inr rfl, ?_⟩
  simp

theorem slices_IndexFunc_S (g : Ga) (h : 1 ≤ g.op ∧ g.op ≤ 6) : FSpec Try.prog 57 [.c (.d (.l 6 fun j => (opsC.drop (j * 2)).take 2)), .c (.clo (.func 58) [.ptr 1000000 0])] [(1000000, .box false (g.c_.map .d))] (tupOf [tI .i64 (g.op - 1)]) [(1000000, .box false (g.c_.map .d))] := by
  refine fspec_introM (ma := _) Try.func57 (by kernel_rfl) rfl Try.vtOK rfl Try.ntmps57 (by simp) (by simp [lk_cons]) ?_
  refine awp_seq' fun k hk => awp_region (et := Try.et) Try.vtOK Try.etOK ?_
  simp (maxSteps := 5000000) (disch := first | (intro _; intros; contradiction) | omega) [i64_in, u8_in, vgd_t, vgd_f, wgd_t, wgd_f]
  (first | (refine hk _ ?_; clear hk; (try clear k)) | (clear hk; (try clear k); refine hk _ ?_; clear hk; (try clear k)) | (clear hk; (try clear k); clear hk; (try clear k); refine hk _ ?_; clear hk; (try clear k)) | (clear hk; (try clear k); clear hk; (try clear k); clear hk; (try clear k); refine hk _ ?_; clear hk; (try clear k)))
  refine awp_seq' fun k0 hk0 => ?_
  refine awp_seq' fun k1 hk1 => awp_region (et := Try.et) Try.vtOK Try.etOK ?_
  simp (maxSteps := 5000000) (disch := first | (intro _; intros; contradiction) | omega) [i64_in, u8_in, vgd_t, vgd_f, wgd_t, wgd_f]
  (refine hk1 _ ?_; clear hk1)
  obtain ⟨o, ho, ho5⟩ : ∃ o : Nat, g.op = o + 1 ∧ o ≤ 5 := ⟨(g.op - 1).toNat, by omega, by omega⟩
  refine awp_block (awp_for (fun n s => ∃ i : Nat, n = 6 - i ∧ i ≤ o ∧ s = ⟨[(8, tI .i64 i), (7, tI .i64 6), (0, .c (.d (.l 6 fun j => (opsC.drop (j * 2)).take 2))), (1, .c (.clo (.func 58) [.ptr 1000000 0]))], [(1000000, .box false (g.c_.map .d))]⟩) 6 (weak_mk (by simp) (by simp) (by simp)) ⟨0, by simp, by simp, rfl⟩ ?_)
  rintro n s ⟨i, rfl, hi, rfl⟩ k hk
  refine awp_seq' fun k1 hk1 => awp_region (et := Try.et) Try.vtOK Try.etOK ?_
  simp (maxSteps := 5000000) (disch := first | (intro _; intros; contradiction) | omega) [i64_in, u8_in, vgd_t, vgd_f, wgd_t, wgd_f]
  (refine hk1 _ ?_; clear hk1)
  refine awp_seq' fun k1 hk1 => ?_
  refine awp_cond rfl rfl (fun hc => ?_) (fun hc => ?_)
  · refine awp_skip ?_
    (refine hk1 _ ?_; clear hk1)
    refine awp_seq' fun k2 hk2 => ?_
    refine awp_block ?_
    refine awp_seq' fun k3 hk3 => awp_region (et := Try.et) Try.vtOK Try.etOK ?_
    simp (maxSteps := 5000000) (disch := first | (intro _; intros; contradiction) | omega) [i64_in, u8_in, vgd_t, vgd_f, wgd_t, wgd_f]
    (refine hk3 _ ?_; clear hk3)
    have hop : ∃ f : Value, (opsC.drop (i * 2)).take 2 = [D.s (.int .i64 (i + 1)), D.s f] := by
      have : i = 0 ∨ i = 1 ∨ i = 2 ∨ i = 3 ∨ i = 4 ∨ i = 5 := by omega
      rcases this with rfl | rfl | rfl | rfl | rfl | rfl <;> exact ⟨_, rfl⟩
    obtain ⟨f, hop⟩ := hop
    refine awp_seq' fun k4 hk4 => awp_region (et := Try.et) Try.vtOK Try.etOK ?_
    simp (maxSteps := 5000000) (disch := first | (intro _; intros; contradiction) | omega) [i64_in, u8_in, vgd_t, vgd_f, wgd_t, wgd_f, hop]
    simp at hc
    refine ⟨hc, ?_⟩
    refine vcall_ob (netsim_Eval1_S (i + 1) f g) [(1000000, 1000000)] rfl (by simp) (by simp) (by simp) ?_
    simp (maxSteps := 5000000) (disch := first | (intro _; intros; contradiction) | omega) [i64_in, u8_in, vgd_t, vgd_f, wgd_t, wgd_f]
    (refine hk4 _ ?_; clear hk4)
    refine awp_cond rfl rfl (fun hc4 => ?_) (fun hc4 => ?_)
    · simp at hc4
      refine awp_seq' fun k5 hk5 => awp_region (et := Try.et) Try.vtOK Try.etOK ?_
      simp (maxSteps := 5000000) (disch := first | (intro _; intros; contradiction) | omega) [i64_in, u8_in, vgd_t, vgd_f, wgd_t, wgd_f]
      (refine hk5 _ ?_; clear hk5)
      refine awp_ret ⟨.inr rfl, ?_⟩
      simp [hc4.symm]
    · refine awp_skip ?_
      simp at hc4
      (refine hk2 _ ?_; clear hk2)
      refine awp_region (et := Try.et) Try.vtOK Try.etOK ?_
      simp (maxSteps := 5000000) (disch := first | (intro _; intros; contradiction) | omega) [i64_in, u8_in, vgd_t, vgd_f, wgd_t, wgd_f]
      refine hk _ ⟨[(8, tI .i64 (i + 1 : Nat)), (7, tI .i64 6), (0, .c (.d (.l 6 fun j => (opsC.drop (j * 2)).take 2))), (1, .c (.clo (.func 58) [.ptr 1000000 0]))], [(1000000, .box false (g.c_.map .d))]⟩ _ (by omega) ⟨i + 1, rfl, by omega, rfl⟩ (weak_mk (by simp) (by simp) (by simp))
  · exfalso
    simp at hc
    omega
end Go.Proofs

namespace Go.Proofs
open Go.V IntWalk
set_option maxRecDepth 100000
set_option linter.unusedSimpArgs false
set_option linter.unusedVariables false

/-- A row of truth values as it grows. -/
abbrev bF (xs : List Bool) : Nat → List D := fun j => [.s (.bool (xs[j]?.getD false))]
theorem appBF (n : Nat) (xs : List Bool) (b : Bool) (hn : n = xs.length) : LeF (n + 1) (appF n (bF xs) (fun j => [[D.s (.bool b)]][j]?.getD [])) (bF (xs ++ [b])) := by
  subst hn
  exact LeD.ext fun j hj => by
    unfold appF
    split
    · rename_i h; simp only [bF, List.getElem?_append_left h]
    · have : j = xs.length := by omega
      subst this
      simp
theorem appB0 (n : Nat) (xs : List Bool) (hn : n = 2 + xs.length) : LeF n (appF 2 (fun j => [[D.s (.bool false)], [D.s (.bool true)]][j]?.getD []) (bF xs)) (bF (false :: true :: xs)) := by
  subst hn
  exact LeD.ext fun j hj => by
    unfold appF
    match j with
    | 0 => rfl
    | 1 => rfl
    | j + 2 => simp [bF]

theorem nb3 (a b c : Bool) : LeD (.l 3 fun j => [[D.s (.bool a)], [D.s (.bool b)], [D.s (.bool c)]][j]?.getD []) (dB [a, b, c]) :=
  LeD.ext fun j hj => by
    match j, hj with
    | 0, _ => rfl
    | 1, _ => rfl
    | 2, _ => rfl

theorem netsim_Eval_S (n : Nt) (xs : List Bool) (ms : List (List Int)) (hx : xs.length < 1000000) (hg : n.gates.length < 1000000) (hm : ms.length < 9223372036854775808) (ok : ∀ i < n.gates.length, (n.gates[i]?.getD default).ok (2 + xs.length + i)) :
    FSpec Try.prog 29 [.agg n.c_, .c (.d (dB xs)), .c (.d (dLL ms))] [] (.c (.d (dB (evI n.gates ms (false :: true :: xs) n.gates.length)))) [] := by
  refine fspec_intro Try.func29 (by kernel_rfl) rfl Try.vtOK rfl Try.ntmps29 (by simp) ?_
  refine awp_seq' fun k hk => awp_region (et := Try.et) Try.vtOK Try.etOK ?_
  simp (maxSteps := 5000000) (disch := first | (intro _; intros; contradiction) | omega) [i64_in, u8_in, vgd_t, vgd_f, wgd_t, wgd_f]
  (first | (refine hk _ ?_; clear hk; (try clear k)) | (clear hk; (try clear k); refine hk _ ?_; clear hk; (try clear k)) | (clear hk; (try clear k); clear hk; (try clear k); refine hk _ ?_; clear hk; (try clear k)) | (clear hk; (try clear k); clear hk; (try clear k); clear hk; (try clear k); refine hk _ ?_; clear hk; (try clear k)))
  refine awp_seq' fun k hk => awp_region (et := Try.et) Try.vtOK Try.etOK ?_
  simp (maxSteps := 5000000) (disch := first | (intro _; intros; contradiction) | omega) [i64_in, u8_in, vgd_t, vgd_f, wgd_t, wgd_f]
  refine ⟨by omega, ?_⟩
  (first | (refine hk _ ?_; clear hk; (try clear k)) | (clear hk; (try clear k); refine hk _ ?_; clear hk; (try clear k)) | (clear hk; (try clear k); clear hk; (try clear k); refine hk _ ?_; clear hk; (try clear k)) | (clear hk; (try clear k); clear hk; (try clear k); clear hk; (try clear k); refine hk _ ?_; clear hk; (try clear k)))
  refine awp_seq' fun k hk => awp_region (et := Try.et) Try.vtOK Try.etOK ?_
  simp (maxSteps := 5000000) (disch := first | (intro _; intros; contradiction) | omega) [i64_in, u8_in, vgd_t, vgd_f, wgd_t, wgd_f]
  refine vcall_fn rfl (by simp) (LeTs.refl _) (netsim_operators_S) ?_
  simp (maxSteps := 5000000) (disch := first | (intro _; intros; contradiction) | omega) [i64_in, u8_in, vgd_t, vgd_f, wgd_t, wgd_f, opsC]
  (first | (refine hk _ ?_; clear hk; (try clear k)) | (clear hk; (try clear k); refine hk _ ?_; clear hk; (try clear k)) | (clear hk; (try clear k); clear hk; (try clear k); refine hk _ ?_; clear hk; (try clear k)) | (clear hk; (try clear k); clear hk; (try clear k); clear hk; (try clear k); refine hk _ ?_; clear hk; (try clear k)))
  refine awp_seq' fun k0 hk0 => ?_
  refine awp_seq' fun k1 hk1 => awp_region (et := Try.et) Try.vtOK Try.etOK ?_
  simp (maxSteps := 5000000) (disch := first | (intro _; intros; contradiction) | omega) [i64_in, u8_in, vgd_t, vgd_f, wgd_t, wgd_f]
  (refine hk1 _ ?_; clear hk1)
  refine awp_block (awp_for (fun q s => ∃ (i : Nat) (b : Bool), q = n.gates.length - i ∧ i ≤ n.gates.length ∧ s = ⟨[(22, tI .i64 i), (21, tI .i64 n.gates.length), (20, .c (.d (dG n.gates))), (8, .c (.ptr 128 0)), (7, .c (.row 240 (2 + xs.length + i))), (2, .c (.d (dLL ms)))], [(240, .row false 4 1 (2 + xs.length + i) (bF (evI n.gates ms (false :: true :: xs) i))), (128, .box b (opsC.map .d))]⟩) n.gates.length (weak_mk (by simp) (by simp [evI, opsC]; exact appB0 _ _ rfl) (by simp)) ⟨0, false, by simp, by simp, rfl⟩ ?_)
  rintro q s ⟨i, b, rfl, hi, rfl⟩ k hk
  refine awp_seq' fun k1 hk1 => awp_region (et := Try.et) Try.vtOK Try.etOK ?_
  simp (maxSteps := 5000000) (disch := first | (intro _; intros; contradiction) | omega) [i64_in, u8_in, vgd_t, vgd_f, wgd_t, wgd_f]
  (refine hk1 _ ?_; clear hk1)
  refine awp_seq' fun k1 hk1 => ?_
  refine awp_cond rfl rfl (fun hc => ?_) (fun hc => ?_)
  · refine awp_skip ?_
    (refine hk1 _ ?_; clear hk1)
    simp at hc
    refine awp_seq' fun k2 hk2 => ?_
    refine awp_block ?_
    have hgo := ok i hc
    have hl := evI_length n.gates ms (false :: true :: xs) i
    have hs : evI n.gates ms (false :: true :: xs) (i + 1) = evI n.gates ms (false :: true :: xs) i ++ [gateV ms (evI n.gates ms (false :: true :: xs) i) (n.gates[i]?.getD default)] := rfl
    generalize evI n.gates ms (false :: true :: xs) i = v at hl hs ⊢
    have hvl : id (v.length = 2 + xs.length + i) := by show v.length = _; rw [hl]; simp; omega
    clear hl
    refine awp_seq' fun k3 hk3 => awp_region (et := Try.et) Try.vtOK Try.etOK ?_
    generalize hge : n.gates[i]?.getD default = g at hgo hs
    have hge' : n.gates[i] = g := by simpa [hc] using hge
    simp (maxSteps := 5000000) (disch := first | (intro _; intros; contradiction) | omega) [i64_in, u8_in, vgd_t, vgd_f, wgd_t, wgd_f, hge']
    obtain ⟨g1, g2, g3, g4, g5, g6, g7, g8, g9, g10⟩ := hgo
    refine ⟨hc, ?_⟩
    (refine hk3 _ ?_; clear hk3)
    refine awp_seq' fun k4 hk4 => awp_region_draw (et := Try.et) Try.mixed Try.vtOK Try.etOK ?_
    simp (maxSteps := 5000000) (disch := first | (intro _; intros; contradiction) | omega) [i64_in, u8_in, vgd_t, vgd_f, wgd_t, wgd_f]
    refine ⟨⟨by omega, by omega⟩, ⟨by omega, by omega⟩, ⟨by omega, by omega⟩, by kernel_rfl, ?_⟩
    (refine hk4 _ ?_; clear hk4)
    obtain ⟨va, hA⟩ : ∃ va, v[g.a.toNat]?.getD false = va := ⟨_, rfl⟩
    obtain ⟨vb, hB⟩ : ∃ vb, v[g.b.toNat]?.getD false = vb := ⟨_, rfl⟩
    obtain ⟨vc, hC⟩ : ∃ vc, v[g.c.toNat]?.getD false = vc := ⟨_, rfl⟩
    have h3 : ∀ (b' : Bool) (s : St), Weak s ⟨[(22, tI .i64 i), (21, tI .i64 n.gates.length), (20, .c (.d (dG n.gates))), (8, .c (.ptr 128 0)), (7, .c (.row 240 (2 + xs.length + i + 1))), (2, .c (.d (dLL ms)))], [(240, .row false 4 1 (2 + xs.length + i + 1) (bF (v ++ [gateV ms v g]))), (128, .box b' (opsC.map .d))]⟩ → k2 s := by
      intro b' s hw
      refine hk2 s (awp_weak hw ?_)
      refine awp_region (et := Try.et) Try.vtOK Try.etOK ?_
      simp (maxSteps := 5000000) (disch := first | (intro _; intros; contradiction) | omega) [i64_in, u8_in, vgd_t, vgd_f, wgd_t, wgd_f]
      refine hk _ ⟨[(22, tI .i64 (i + 1 : Nat)), (21, tI .i64 n.gates.length), (20, .c (.d (dG n.gates))), (8, .c (.ptr 128 0)), (7, .c (.row 240 (2 + xs.length + (i + 1)))), (2, .c (.d (dLL ms)))], [(240, .row false 4 1 (2 + xs.length + (i + 1)) (bF (evI n.gates ms (false :: true :: xs) (i + 1)))), (128, .box b' (opsC.map .d))]⟩ _ (by omega) ⟨i + 1, b', rfl, by omega, rfl⟩ ?_
      rw [hs]
      exact weak_mk (by simp [Nat.add_assoc]) (by simp [Nat.add_assoc]) (by simp)
    refine awp_seq' fun k4 hk4 => ?_
    refine awp_seq' fun k6 hk6 => awp_region (et := Try.et) Try.vtOK Try.etOK ?_
    simp (maxSteps := 5000000) (disch := first | (intro _; intros; contradiction) | omega) [i64_in, u8_in, vgd_t, vgd_f, wgd_t, wgd_f, hA, hB, hC]
    (refine hk6 _ ?_; clear hk6)
    refine awp_cond rfl rfl (fun hc6 => ?_) (fun hc6 => ?_)
    · simp at hc6
      refine awp_seq' fun k7 hk7 => awp_region_draw (et := Try.et) Try.mixed Try.vtOK Try.etOK ?_
      simp (maxSteps := 5000000) (disch := first | (intro _; intros; contradiction) | omega) [i64_in, u8_in, vgd_t, vgd_f, wgd_t, wgd_f]
      refine wcall_fn rfl (by simp) (?_ : LeTs _ [.c (.d (dB [va, vb, vc]))]) (netsim_number_S [va, vb, vc] (by simp)) ?_
      · simp
        exact nb3 va vb vc
      simp (maxSteps := 5000000) (disch := first | (intro _; intros; contradiction) | omega) [i64_in, u8_in, vgd_t, vgd_f, wgd_t, wgd_f]
      have n3 := numI3 va vb vc
      refine wcall_fn rfl (by simp) (LeTs.refl _) (netsim_read_S ms g.n _ hm ⟨g9, g10⟩ n3.1) ?_
      simp (maxSteps := 5000000) (disch := first | (intro _; intros; contradiction) | omega) [i64_in, u8_in, vgd_t, vgd_f, wgd_t, wgd_f]
      refine ⟨by omega, by kernel_rfl, ?_⟩
      (refine hk7 _ ?_; clear hk7)
      refine awp_exit ?_
      have ev : gateV ms v g = rdB ms g.n (numI [va, vb, vc] 3) := by simp [gateV, hc6, hA, hB, hC]
      simp
      refine h3 b _ (weak_mk (by simp) (by simp [ev, opsC]; exact appBF _ _ _ hvl.symm) (by simp))
    · refine awp_skip ?_
      simp at hc6
      (refine hk4 _ ?_; clear hk4)
      refine awp_seq' fun k7 hk7 => awp_region (et := Try.et) Try.vtOK Try.etOK ?_
      simp (maxSteps := 5000000) (disch := first | (intro _; intros; contradiction) | omega) [i64_in, u8_in, vgd_t, vgd_f, wgd_t, wgd_f, opsC]
      have e := slices_IndexFunc_S g ⟨g1, by omega⟩
      simp only [opsC] at e
      refine vcall_ob (e) [(1000000, 160)] rfl (by simp) (by simp) (by simp) ?_
      simp (maxSteps := 5000000) (disch := first | (intro _; intros; contradiction) | omega) [i64_in, u8_in, vgd_t, vgd_f, wgd_t, wgd_f]
      (refine hk7 _ ?_; clear hk7)
      have h6 : g.op = 1 ∨ g.op = 2 ∨ g.op = 3 ∨ g.op = 4 ∨ g.op = 5 ∨ g.op = 6 := by omega
      rcases h6 with hop | hop | hop | hop | hop | hop
      · have ev : gateV ms v g = opV 1 va vb vc := by simp [gateV, hop, hA, hB, hC]
        refine awp_region (et := Try.et) Try.vtOK Try.etOK ?_
        simp (maxSteps := 5000000) (disch := first | (intro _; intros; contradiction) | omega) [i64_in, u8_in, vgd_t, vgd_f, wgd_t, wgd_f, hop, opsC]
        refine vcall_fn rfl (by simp) (LeTs.refl _) (op1_S _ _ _) ?_
        simp (maxSteps := 5000000) (disch := first | (intro _; intros; contradiction) | omega) [i64_in, u8_in, vgd_t, vgd_f, wgd_t, wgd_f]
        refine ⟨by omega, h3 true _ (weak_mk (by simp) (by simp [ev, opsC]; exact appBF _ _ _ hvl.symm) (by simp))⟩
      · have ev : gateV ms v g = opV 2 va vb vc := by simp [gateV, hop, hA, hB, hC]
        refine awp_region (et := Try.et) Try.vtOK Try.etOK ?_
        simp (maxSteps := 5000000) (disch := first | (intro _; intros; contradiction) | omega) [i64_in, u8_in, vgd_t, vgd_f, wgd_t, wgd_f, hop, opsC]
        refine vcall_fn rfl (by simp) (LeTs.refl _) (op2_S _ _ _) ?_
        simp (maxSteps := 5000000) (disch := first | (intro _; intros; contradiction) | omega) [i64_in, u8_in, vgd_t, vgd_f, wgd_t, wgd_f]
        refine ⟨by omega, h3 true _ (weak_mk (by simp) (by simp [ev, opsC]; exact appBF _ _ _ hvl.symm) (by simp))⟩
      · have ev : gateV ms v g = opV 3 va vb vc := by simp [gateV, hop, hA, hB, hC]
        refine awp_region (et := Try.et) Try.vtOK Try.etOK ?_
        simp (maxSteps := 5000000) (disch := first | (intro _; intros; contradiction) | omega) [i64_in, u8_in, vgd_t, vgd_f, wgd_t, wgd_f, hop, opsC]
        refine vcall_fn rfl (by simp) (LeTs.refl _) (op3_S _ _ _) ?_
        simp (maxSteps := 5000000) (disch := first | (intro _; intros; contradiction) | omega) [i64_in, u8_in, vgd_t, vgd_f, wgd_t, wgd_f]
        refine ⟨by omega, h3 true _ (weak_mk (by simp) (by simp [ev, opsC]; exact appBF _ _ _ hvl.symm) (by simp))⟩
      · have ev : gateV ms v g = opV 4 va vb vc := by simp [gateV, hop, hA, hB, hC]
        refine awp_region (et := Try.et) Try.vtOK Try.etOK ?_
        simp (maxSteps := 5000000) (disch := first | (intro _; intros; contradiction) | omega) [i64_in, u8_in, vgd_t, vgd_f, wgd_t, wgd_f, hop, opsC]
        refine vcall_fn rfl (by simp) (LeTs.refl _) (op4_S _ _ _) ?_
        simp (maxSteps := 5000000) (disch := first | (intro _; intros; contradiction) | omega) [i64_in, u8_in, vgd_t, vgd_f, wgd_t, wgd_f]
        refine ⟨by omega, h3 true _ (weak_mk (by simp) (by simp [ev, opsC]; exact appBF _ _ _ hvl.symm) (by simp))⟩
      · have ev : gateV ms v g = opV 5 va vb vc := by simp [gateV, hop, hA, hB, hC]
        refine awp_region (et := Try.et) Try.vtOK Try.etOK ?_
        simp (maxSteps := 5000000) (disch := first | (intro _; intros; contradiction) | omega) [i64_in, u8_in, vgd_t, vgd_f, wgd_t, wgd_f, hop, opsC]
        refine vcall_fn rfl (by simp) (LeTs.refl _) (op5_S _ _ _) ?_
        simp (maxSteps := 5000000) (disch := first | (intro _; intros; contradiction) | omega) [i64_in, u8_in, vgd_t, vgd_f, wgd_t, wgd_f]
        refine ⟨by omega, h3 true _ (weak_mk (by simp) (by simp [ev, opsC]; exact appBF _ _ _ hvl.symm) (by simp))⟩
      · have ev : gateV ms v g = opV 6 va vb vc := by simp [gateV, hop, hA, hB, hC]
        refine awp_region (et := Try.et) Try.vtOK Try.etOK ?_
        simp (maxSteps := 5000000) (disch := first | (intro _; intros; contradiction) | omega) [i64_in, u8_in, vgd_t, vgd_f, wgd_t, wgd_f, hop, opsC]
        refine vcall_fn rfl (by simp) (LeTs.refl _) (op6_S _ _ _) ?_
        simp (maxSteps := 5000000) (disch := first | (intro _; intros; contradiction) | omega) [i64_in, u8_in, vgd_t, vgd_f, wgd_t, wgd_f]
        refine ⟨by omega, h3 true _ (weak_mk (by simp) (by simp [ev, opsC]; exact appBF _ _ _ hvl.symm) (by simp))⟩
  · refine awp_exit ?_
    simp at hc ⊢
    have : i = n.gates.length := by omega
    subst this
    (refine hk0 _ ?_; clear hk0)
    refine awp_seq' fun k4 hk4 => awp_region (et := Try.et) Try.vtOK Try.etOK ?_
    simp (maxSteps := 5000000) (disch := first | (intro _; intros; contradiction) | omega) [i64_in, u8_in, vgd_t, vgd_f, wgd_t, wgd_f]
    (refine hk4 _ ?_; clear hk4)
    refine awp_ret ⟨.inr rfl, ?_⟩
    simp
    have hl := evI_length n.gates ms (false :: true :: xs) n.gates.length
    have hl2 : 2 + xs.length + n.gates.length = (evI n.gates ms (false :: true :: xs) n.gates.length).length := by rw [hl]; simp; omega
    rw [hl2]
    exact .refl _
end Go.Proofs

namespace Go.Proofs
open Go.V IntWalk
set_option maxRecDepth 100000
set_option linter.unusedSimpArgs false
set_option linter.unusedVariables false

/-- The values that the outputs are driven by. -/
def drB (v : List Bool) (ds : List Int) : List Bool := ds.map fun d => v[d.toNat]?.getD false
def Nt.vals (n : Nt) (xs : List Bool) (ms : List (List Int)) : List Bool := evI n.gates ms (false :: true :: xs) n.gates.length
def Nt.okX (n : Nt) (k : Nat) : Prop := n.gates.length < 1000000 ∧ n.drive.length < 1000000 ∧ n.ins.length < 1000000 ∧ n.outs.length < 1000000 ∧ (∀ i < n.gates.length, (n.gates[i]?.getD default).ok (2 + k + i)) ∧ ∀ i < n.drive.length, 0 ≤ n.drive[i]?.getD 0 ∧ n.drive[i]?.getD 0 < 2 + k + n.gates.length

theorem netsim_outputs_S (n : Nt) (xs : List Bool) (ms : List (List Int)) (hx : xs.length < 1000000) (hm : ms.length < 9223372036854775808) (ok : n.okX xs.length) :
    FSpec Try.prog 79 [.agg n.c_, .c (.d (dB xs)), .c (.d (dLL ms))] [] (.c (.d (dB (drB (n.vals xs ms) n.drive)))) [] := by
  obtain ⟨hg, hd, hi, ho, hok, hdr⟩ := ok
  have hl : (n.vals xs ms).length = 2 + xs.length + n.gates.length := by unfold Nt.vals; rw [evI_length]; simp; omega
  refine fspec_intro Try.func79 (by kernel_rfl) rfl Try.vtOK rfl Try.ntmps79 (by simp) ?_
  refine awp_seq' fun k hk => awp_region (et := Try.et) Try.vtOK Try.etOK ?_
  simp (maxSteps := 5000000) (disch := first | (intro _; intros; contradiction) | omega) [i64_in, u8_in, vgd_t, vgd_f, wgd_t, wgd_f]
  (first | (refine hk _ ?_; clear hk; (try clear k)) | (clear hk; (try clear k); refine hk _ ?_; clear hk; (try clear k)) | (clear hk; (try clear k); clear hk; (try clear k); refine hk _ ?_; clear hk; (try clear k)) | (clear hk; (try clear k); clear hk; (try clear k); clear hk; (try clear k); refine hk _ ?_; clear hk; (try clear k)))
  refine awp_seq' fun k hk => awp_region (et := Try.et) Try.vtOK Try.etOK ?_
  simp (maxSteps := 5000000) (disch := first | (intro _; intros; contradiction) | omega) [i64_in, u8_in, vgd_t, vgd_f, wgd_t, wgd_f]
  refine vcall_fn rfl (by simp) (LeTs.refl _) (netsim_Eval_S n xs ms hx hg hm hok) ?_
  simp (maxSteps := 5000000) (disch := first | (intro _; intros; contradiction) | omega) [i64_in, u8_in, vgd_t, vgd_f, wgd_t, wgd_f]
  (first | (refine hk _ ?_; clear hk; (try clear k)) | (clear hk; (try clear k); refine hk _ ?_; clear hk; (try clear k)) | (clear hk; (try clear k); clear hk; (try clear k); refine hk _ ?_; clear hk; (try clear k)) | (clear hk; (try clear k); clear hk; (try clear k); clear hk; (try clear k); refine hk _ ?_; clear hk; (try clear k)))
  refine awp_seq' fun k hk => awp_region (et := Try.et) Try.vtOK Try.etOK ?_
  simp (maxSteps := 5000000) (disch := first | (intro _; intros; contradiction) | omega) [i64_in, u8_in, vgd_t, vgd_f, wgd_t, wgd_f]
  refine ⟨by omega, ?_⟩
  (first | (refine hk _ ?_; clear hk; (try clear k)) | (clear hk; (try clear k); refine hk _ ?_; clear hk; (try clear k)) | (clear hk; (try clear k); clear hk; (try clear k); refine hk _ ?_; clear hk; (try clear k)) | (clear hk; (try clear k); clear hk; (try clear k); clear hk; (try clear k); refine hk _ ?_; clear hk; (try clear k)))
  rw [show evI n.gates ms (false :: true :: xs) n.gates.length = n.vals xs ms from rfl]
  generalize hv : n.vals xs ms = v at hl
  refine awp_seq' fun k0 hk0 => ?_
  refine awp_seq' fun k1 hk1 => awp_region (et := Try.et) Try.vtOK Try.etOK ?_
  simp (maxSteps := 5000000) (disch := first | (intro _; intros; contradiction) | omega) [i64_in, u8_in, vgd_t, vgd_f, wgd_t, wgd_f]
  (refine hk1 _ ?_; clear hk1)
  refine awp_block (awp_for (fun q s => ∃ i : Nat, q = n.drive.length - i ∧ i ≤ n.drive.length ∧ s = ⟨[(22, tI .i64 i), (21, tI .i64 n.drive.length), (20, .c (.d (dL n.drive))), (8, .c (.row 288 n.drive.length)), (7, .c (.d (dB v)))], [(288, .row false 4 1 n.drive.length fun j => [.s (.bool (decide (j < i) && (drB v n.drive)[j]?.getD false))])]⟩) n.drive.length (weak_mk (by simp) (by simp) (by simp)) ⟨0, by simp, by simp, rfl⟩ ?_)
  rintro q s ⟨i, rfl, hi', rfl⟩ k hk
  refine awp_seq' fun k1 hk1 => awp_region (et := Try.et) Try.vtOK Try.etOK ?_
  simp (maxSteps := 5000000) (disch := first | (intro _; intros; contradiction) | omega) [i64_in, u8_in, vgd_t, vgd_f, wgd_t, wgd_f]
  (refine hk1 _ ?_; clear hk1)
  refine awp_seq' fun k1 hk1 => ?_
  refine awp_cond rfl rfl (fun hc => ?_) (fun hc => ?_)
  · refine awp_skip ?_
    (refine hk1 _ ?_; clear hk1)
    simp at hc
    refine awp_seq' fun k2 hk2 => ?_
    refine awp_block ?_
    have hdi := hdr i hc
    have hdg : n.drive[i]?.getD 0 = n.drive[i] := by simp [hc]
    rw [hdg] at hdi
    refine awp_seq' fun k3 hk3 => awp_region (et := Try.et) Try.vtOK Try.etOK ?_
    simp (maxSteps := 5000000) (disch := first | (intro _; intros; contradiction) | omega) [i64_in, u8_in, vgd_t, vgd_f, wgd_t, wgd_f]
    refine ⟨hc, ?_⟩
    (refine hk3 _ ?_; clear hk3)
    generalize hde : n.drive[i] = d at hdi
    refine awp_region (et := Try.et) Try.vtOK Try.etOK ?_
    simp (maxSteps := 5000000) (disch := first | (intro _; intros; contradiction) | omega) [i64_in, u8_in, vgd_t, vgd_f, wgd_t, wgd_f]
    refine ⟨⟨hdi.1, by omega⟩, hc, ?_⟩
    (refine hk2 _ ?_; clear hk2)
    refine awp_region (et := Try.et) Try.vtOK Try.etOK ?_
    simp (maxSteps := 5000000) (disch := first | (intro _; intros; contradiction) | omega) [i64_in, u8_in, vgd_t, vgd_f, wgd_t, wgd_f]
    refine hk _ ⟨[(22, tI .i64 (i + 1 : Nat)), (21, tI .i64 n.drive.length), (20, .c (.d (dL n.drive))), (8, .c (.row 288 n.drive.length)), (7, .c (.d (dB v)))], [(288, .row false 4 1 n.drive.length fun j => [.s (.bool (decide (j < i + 1) && (drB v n.drive)[j]?.getD false))])]⟩ _ (by omega) ⟨i + 1, rfl, by omega, rfl⟩ (weak_mk (by simp) ?_ (by simp))
    simp
    refine LeD.ext fun j hj => ?_
    by_cases e : j = i
    · subst e
      have hlt : d.toNat < v.length := by omega
      simp [drB, hc, hde, hlt]
    · have e2 : (j < i + 1) = (j < i) := by simp; omega
      simp [e, e2]
  · refine awp_exit ?_
    simp at hc ⊢
    have : i = n.drive.length := by omega
    subst this
    (refine hk0 _ ?_; clear hk0)
    refine awp_seq' fun k4 hk4 => awp_region (et := Try.et) Try.vtOK Try.etOK ?_
    simp (maxSteps := 5000000) (disch := first | (intro _; intros; contradiction) | omega) [i64_in, u8_in, vgd_t, vgd_f, wgd_t, wgd_f]
    (refine hk4 _ ?_; clear hk4)
    refine awp_ret ⟨.inr rfl, ?_⟩
    simp
    have hl2 : n.drive.length = (drB v n.drive).length := by simp [drB]
    rw [hl2]
    exact LeD.ext fun j hj => by simp [hj]
end Go.Proofs

namespace Go.Proofs
open Go.V IntWalk
set_option maxRecDepth 100000
set_option linter.unusedSimpArgs false
set_option linter.unusedVariables false

/-- The places where two lists differ. -/
def difI (a b : List Bool) : Nat → List Int
  | 0 => []
  | i + 1 => if a[i]?.getD false = b[i]?.getD false then difI a b i else difI a b i ++ [(i : Int)]
theorem difI_len (a b : List Bool) : ∀ i, (difI a b i).length ≤ i
  | 0 => Nat.le_refl 0
  | i + 1 => by have := difI_len a b i; simp only [difI]; split <;> simp <;> omega

theorem appWF (xs : List Int) (w : Int) : LeF (xs.length + 1) (appF xs.length (fun j => [D.s (.int .i64 (xs[j]?.getD 0))]) (fun j => [[D.s (.int .i64 w)]][j]?.getD [])) (fun j => [D.s (.int .i64 ((xs ++ [w])[j]?.getD 0))]) :=
  LeD.ext fun j hj => by
    unfold appF
    split
    · rename_i h; rw [List.getElem?_append_left h]
    · have : j = xs.length := by omega
      subst this
      simp

theorem slices_Clone_bool_O (xs : List Bool) (h0 : 0 < xs.length) (hx : xs.length < 1000000) : FSpec Try.prog 78 [.c (.d (dB xs))] [] (tupOf [.c (.row 80 xs.length)]) [(80, .row false 4 1 xs.length fun j => [.s (.bool (xs[j]?.getD false))])] := by
  refine fspec_introM (ma := _) Try.func78 (by kernel_rfl) rfl Try.vtOK rfl Try.ntmps78 (by simp) (by simp [lk_cons]) ?_
  refine awp_seq' fun k hk => awp_region (et := Try.et) Try.vtOK Try.etOK ?_
  simp (maxSteps := 5000000) (disch := first | (intro _; intros; contradiction) | omega) [i64_in, u8_in, vgd_t, vgd_f, wgd_t, wgd_f]
  (first | (refine hk _ ?_; clear hk; (try clear k)) | (clear hk; (try clear k); refine hk _ ?_; clear hk; (try clear k)) | (clear hk; (try clear k); clear hk; (try clear k); refine hk _ ?_; clear hk; (try clear k)) | (clear hk; (try clear k); clear hk; (try clear k); clear hk; (try clear k); refine hk _ ?_; clear hk; (try clear k)))
  refine awp_seq' fun k1 hk1 => ?_
  refine awp_seq' fun k hk => awp_region (et := Try.et) Try.vtOK Try.etOK ?_
  simp (maxSteps := 5000000) (disch := first | (intro _; intros; contradiction) | omega) [i64_in, u8_in, vgd_t, vgd_f, wgd_t, wgd_f, dB]
  refine ⟨h0, ?_⟩
  (first | (refine hk _ ?_; clear hk; (try clear k)) | (clear hk; (try clear k); refine hk _ ?_; clear hk; (try clear k)) | (clear hk; (try clear k); clear hk; (try clear k); refine hk _ ?_; clear hk; (try clear k)) | (clear hk; (try clear k); clear hk; (try clear k); clear hk; (try clear k); refine hk _ ?_; clear hk; (try clear k)))
  refine awp_cond rfl rfl (fun hc => ?_) (fun hc => ?_)
  · simp at hc
  · refine awp_skip ?_
    (refine hk1 _ ?_; clear hk1)
    refine awp_seq' fun k hk => awp_region (et := Try.et) Try.vtOK Try.etOK ?_
    simp (maxSteps := 5000000) (disch := first | (intro _; intros; contradiction) | omega) [i64_in, u8_in, vgd_t, vgd_f, wgd_t, wgd_f]
    refine ⟨by omega, ?_⟩
    (first | (refine hk _ ?_; clear hk; (try clear k)) | (clear hk; (try clear k); refine hk _ ?_; clear hk; (try clear k)) | (clear hk; (try clear k); clear hk; (try clear k); refine hk _ ?_; clear hk; (try clear k)) | (clear hk; (try clear k); clear hk; (try clear k); clear hk; (try clear k); refine hk _ ?_; clear hk; (try clear k)))
    refine awp_ret ⟨.inr rfl, ?_⟩
    simp

theorem netsim_Sensitive_S (n : Nt) (xs : List Bool) (ms : List (List Int)) (kk : Nat) (hx : xs.length = n.ins.length) (hkk : kk < n.ins.length) (hm : ms.length < 9223372036854775808) (ok : n.okX xs.length) :
    FSpec Try.prog 50 [.agg n.c_, .c (.d (dB xs)), .c (.d (dLL ms)), tI .i64 kk] [] (.c (.d (dL (difI (drB (n.vals xs ms) n.drive) (drB (n.vals (xs.set kk (!xs[kk]?.getD false)) ms) n.drive) n.drive.length)))) [] := by
  have hok := ok
  obtain ⟨hg, hd, hi, ho, hok1, hdr⟩ := ok
  refine fspec_intro Try.func50 (by kernel_rfl) rfl Try.vtOK rfl Try.ntmps50 (by simp) ?_
  refine awp_seq' fun k hk => awp_region (et := Try.et) Try.vtOK Try.etOK ?_
  simp (maxSteps := 5000000) (disch := first | (intro _; intros; contradiction) | omega) [i64_in, u8_in, vgd_t, vgd_f, wgd_t, wgd_f]
  (first | (refine hk _ ?_; clear hk; (try clear k)) | (clear hk; (try clear k); refine hk _ ?_; clear hk; (try clear k)) | (clear hk; (try clear k); clear hk; (try clear k); refine hk _ ?_; clear hk; (try clear k)) | (clear hk; (try clear k); clear hk; (try clear k); clear hk; (try clear k); refine hk _ ?_; clear hk; (try clear k)))
  refine awp_seq' fun k1 hk1 => ?_
  refine awp_seq' fun k2 hk2 => awp_region (et := Try.et) Try.vtOK Try.etOK ?_
  simp (maxSteps := 5000000) (disch := first | (intro _; intros; contradiction) | omega) [i64_in, u8_in, vgd_t, vgd_f, wgd_t, wgd_f]
  refine ⟨?_, fun h => by omega⟩
  (refine hk2 _ ?_; clear hk2)
  refine awp_cond rfl rfl (fun hc => ?_) (fun hc => ?_)
  · simp at hc
    omega
  · refine awp_skip ?_
    (refine hk1 _ ?_; clear hk1)
    clear hc
    refine awp_seq' fun k hk => awp_region (et := Try.et) Try.vtOK Try.etOK ?_
    simp (maxSteps := 5000000) (disch := first | (intro _; intros; contradiction) | omega) [i64_in, u8_in, vgd_t, vgd_f, wgd_t, wgd_f]
    refine vcall_ob (slices_Clone_bool_O xs (by omega) (by omega)) [(80, 144)] rfl (by simp) (by simp) (by simp) ?_
    simp (maxSteps := 5000000) (disch := first | (intro _; intros; contradiction) | omega) [i64_in, u8_in, vgd_t, vgd_f, wgd_t, wgd_f]
    (first | (refine hk _ ?_; clear hk; (try clear k)) | (clear hk; (try clear k); refine hk _ ?_; clear hk; (try clear k)) | (clear hk; (try clear k); clear hk; (try clear k); refine hk _ ?_; clear hk; (try clear k)) | (clear hk; (try clear k); clear hk; (try clear k); clear hk; (try clear k); refine hk _ ?_; clear hk; (try clear k)))
    refine awp_seq' fun k hk => awp_region (et := Try.et) Try.vtOK Try.etOK ?_
    simp (maxSteps := 5000000) (disch := first | (intro _; intros; contradiction) | omega) [i64_in, u8_in, vgd_t, vgd_f, wgd_t, wgd_f]
    have hkx : kk < xs.length := by omega
    refine ⟨hkx, ?_⟩
    (first | (refine hk _ ?_; clear hk; (try clear k)) | (clear hk; (try clear k); refine hk _ ?_; clear hk; (try clear k)) | (clear hk; (try clear k); clear hk; (try clear k); refine hk _ ?_; clear hk; (try clear k)) | (clear hk; (try clear k); clear hk; (try clear k); clear hk; (try clear k); refine hk _ ?_; clear hk; (try clear k)))
    obtain ⟨ys, hys⟩ : ∃ ys, xs.set kk (!xs[kk]?.getD false) = ys := ⟨_, rfl⟩
    have hyl : ys.length = xs.length := by rw [← hys]; simp
    rw [hys]
    refine awp_weak (st' := ⟨[(9, .c (.row 144 ys.length)), (8, .c (.d (.s (.slice none 0 0)))), (4, .c (.ptr 64 0)), (1, .c (.d (dB xs))), (2, .c (.d (dLL ms)))], [(144, .row false 4 1 ys.length (bF ys)), (64, .box false n.c_)]⟩) (weak_mk (by simp [hyl]) ?_ (by simp)) ?_
    · simp [hyl]
      refine LeD.ext fun j hj => ?_
      rw [← hys]
      by_cases e : j = kk
      · subst e; simp [hkx]
      · have e2 : kk ≠ j := fun h => e h.symm
        simp [e, List.getElem?_set, e2]
    refine awp_seq' fun k hk => awp_region_draw (et := Try.et) Try.mixed Try.vtOK Try.etOK ?_
    simp (maxSteps := 5000000) (disch := first | (intro _; intros; contradiction) | omega) [i64_in, u8_in, vgd_t, vgd_f, wgd_t, wgd_f]
    refine wcall_fn rfl (by simp) (LeTs.refl _) (netsim_outputs_S n xs ms (by omega) hm hok) ?_
    simp (maxSteps := 5000000) (disch := first | (intro _; intros; contradiction) | omega) [i64_in, u8_in, vgd_t, vgd_f, wgd_t, wgd_f]
    have hok2 : n.okX ys.length := by rw [hyl]; exact hok
    refine wcall_fn rfl (by simp) (LeTs.refl _) (netsim_outputs_S n ys ms (by omega) hm hok2) ?_
    simp (maxSteps := 5000000) (disch := first | (intro _; intros; contradiction) | omega) [i64_in, u8_in, vgd_t, vgd_f, wgd_t, wgd_f]
    refine ⟨by kernel_rfl, ?_⟩
    have hla : (drB (n.vals xs ms) n.drive).length = n.drive.length := by simp [drB]
    have hlb : (drB (n.vals ys ms) n.drive).length = n.drive.length := by simp [drB]
    generalize drB (n.vals xs ms) n.drive = us at *
    generalize drB (n.vals ys ms) n.drive = bs at *
    (first | (refine hk _ ?_; clear hk; (try clear k)) | (clear hk; (try clear k); refine hk _ ?_; clear hk; (try clear k)) | (clear hk; (try clear k); clear hk; (try clear k); refine hk _ ?_; clear hk; (try clear k)) | (clear hk; (try clear k); clear hk; (try clear k); clear hk; (try clear k); refine hk _ ?_; clear hk; (try clear k)))
    refine awp_seq' fun k hk => awp_region (et := Try.et) Try.vtOK Try.etOK ?_
    simp (maxSteps := 5000000) (disch := first | (intro _; intros; contradiction) | omega) [i64_in, u8_in, vgd_t, vgd_f, wgd_t, wgd_f]
    (first | (refine hk _ ?_; clear hk; (try clear k)) | (clear hk; (try clear k); refine hk _ ?_; clear hk; (try clear k)) | (clear hk; (try clear k); clear hk; (try clear k); refine hk _ ?_; clear hk; (try clear k)) | (clear hk; (try clear k); clear hk; (try clear k); clear hk; (try clear k); refine hk _ ?_; clear hk; (try clear k)))
    refine awp_seq' fun k0 hk0 => ?_
    refine awp_seq' fun k1 hk1 => awp_region (et := Try.et) Try.vtOK Try.etOK ?_
    simp (maxSteps := 5000000) (disch := first | (intro _; intros; contradiction) | omega) [i64_in, u8_in, vgd_t, vgd_f, wgd_t, wgd_f]
    (refine hk1 _ ?_; clear hk1)
    refine awp_block (awp_for (fun q s => ∃ i : Nat, q = n.drive.length - i ∧ i ≤ n.drive.length ∧ s = ⟨[(43, tI .i64 i), (42, tI .i64 n.drive.length), (12, .c (.row 928 (difI us bs i).length)), (10, .c (.d (dB us))), (11, .c (.d (dB bs)))], [(928, .row false 3 1 (difI us bs i).length fun j => [.s (.int .i64 ((difI us bs i)[j]?.getD 0))])]⟩) n.drive.length
      ((weak_nilT (t := 12) (n := 928) (ty := 3) (sz := 1) (fun j => [.s (.int .i64 0)]) (by simp) (by simp)).trans (weak_mk (by simp [difI, hla]) (by simp [difI]) (by simp))) ⟨0, by simp, by simp, rfl⟩ ?_)
    rintro q s ⟨i, rfl, hi', rfl⟩ k hk
    refine awp_seq' fun k1 hk1 => awp_region (et := Try.et) Try.vtOK Try.etOK ?_
    simp (maxSteps := 5000000) (disch := first | (intro _; intros; contradiction) | omega) [i64_in, u8_in, vgd_t, vgd_f, wgd_t, wgd_f]
    (refine hk1 _ ?_; clear hk1)
    refine awp_seq' fun k1 hk1 => ?_
    refine awp_cond rfl rfl (fun hc => ?_) (fun hc => ?_)
    · refine awp_skip ?_
      (refine hk1 _ ?_; clear hk1)
      simp at hc
      refine awp_seq' fun k2 hk2 => ?_
      refine awp_block ?_
      refine awp_seq' fun k3 hk3 => awp_region (et := Try.et) Try.vtOK Try.etOK ?_
      simp (maxSteps := 5000000) (disch := first | (intro _; intros; contradiction) | omega) [i64_in, u8_in, vgd_t, vgd_f, wgd_t, wgd_f]
      (refine hk3 _ ?_; clear hk3)
      refine awp_seq' fun k4 hk4 => awp_region_draw (et := Try.et) Try.mixed Try.vtOK Try.etOK ?_
      simp (maxSteps := 5000000) (disch := first | (intro _; intros; contradiction) | omega) [i64_in, u8_in, vgd_t, vgd_f, wgd_t, wgd_f]
      refine ⟨by omega, by omega, by kernel_rfl, ?_⟩
      (refine hk4 _ ?_; clear hk4)
      have hua : us[i]?.getD false = us[i] := by simp [hla, hc]
      have hub : bs[i]?.getD false = bs[i] := by simp [hlb, hc]
      have hsd : difI us bs (i + 1) = if us[i]?.getD false = bs[i]?.getD false then difI us bs i else difI us bs i ++ [(i : Int)] := rfl
      rw [hua, hub] at hsd
      have hdl := difI_len us bs i
      have h3 : ∀ s : St, Weak s ⟨[(43, tI .i64 i), (42, tI .i64 n.drive.length), (12, .c (.row 928 (difI us bs (i + 1)).length)), (10, .c (.d (dB us))), (11, .c (.d (dB bs)))], [(928, .row false 3 1 (difI us bs (i + 1)).length fun j => [.s (.int .i64 ((difI us bs (i + 1))[j]?.getD 0))])]⟩ → k2 s := by
        intro s hw
        refine hk2 s (awp_weak hw ?_)
        refine awp_region (et := Try.et) Try.vtOK Try.etOK ?_
        simp (maxSteps := 5000000) (disch := first | (intro _; intros; contradiction) | omega) [i64_in, u8_in, vgd_t, vgd_f, wgd_t, wgd_f]
        refine hk _ ⟨[(43, tI .i64 (i + 1 : Nat)), (42, tI .i64 n.drive.length), (12, .c (.row 928 (difI us bs (i + 1)).length)), (10, .c (.d (dB us))), (11, .c (.d (dB bs)))], [(928, .row false 3 1 (difI us bs (i + 1)).length fun j => [.s (.int .i64 ((difI us bs (i + 1))[j]?.getD 0))])]⟩ _ (by omega) ⟨i + 1, rfl, by omega, rfl⟩ (weak_mk (by simp) (by simp) (by simp))
      refine awp_cond rfl rfl (fun hc4 => ?_) (fun hc4 => ?_)
      · refine awp_region (et := Try.et) Try.vtOK Try.etOK ?_
        simp (maxSteps := 5000000) (disch := first | (intro _; intros; contradiction) | omega) [i64_in, u8_in, vgd_t, vgd_f, wgd_t, wgd_f]
        refine ⟨by omega, ?_⟩
        have hne : ¬ us[i] = bs[i] := by simpa using hc4
        rw [if_neg hne] at hsd
        rw [hsd] at h3
        refine h3 _ (weak_mk (by simp) ?_ (by simp))
        simp
        exact appWF _ _
      · refine awp_skip ?_
        have he : us[i] = bs[i] := by simpa using hc4
        rw [if_pos he] at hsd
        rw [hsd] at h3
        exact h3 _ (weak_mk (by simp) (by simp) (by simp))
    · refine awp_exit ?_
      simp at hc ⊢
      have : i = n.drive.length := by omega
      subst this
      (refine hk0 _ ?_; clear hk0)
      refine awp_seq' fun k4 hk4 => awp_region (et := Try.et) Try.vtOK Try.etOK ?_
      simp (maxSteps := 5000000) (disch := first | (intro _; intros; contradiction) | omega) [i64_in, u8_in, vgd_t, vgd_f, wgd_t, wgd_f]
      (refine hk4 _ ?_; clear hk4)
      refine awp_ret ⟨.inr rfl, ?_⟩
      simp
      exact .refl _
end Go.Proofs

namespace Go.Proofs
open Go.V IntWalk
set_option maxRecDepth 100000
set_option linter.unusedSimpArgs false
set_option linter.unusedVariables false

theorem netsim_Inputs_S (n : Nt) (regs : List Int) (mems : List (List Int)) (heads : List (Bool × Int)) (rooms : List Bool) (hn : n.ins.length < 1000000) (ok : ∀ i < n.ins.length, 0 ≤ (n.ins[i]?.getD default).i ∧ 0 ≤ (n.ins[i]?.getD default).bit) :
    FSpec Try.prog 47 [.agg n.c_, .agg [.d (dL regs), .d (dLL mems)], .c (.d (dH heads)), .c (.d (dB rooms))] [] (.c (.d (dB (n.ins.map (inV regs heads rooms))))) [] := by
  refine fspec_intro Try.func47 (by kernel_rfl) rfl Try.vtOK rfl Try.ntmps47 (by simp) ?_
  refine awp_seq' fun k hk => awp_region (et := Try.et) Try.vtOK Try.etOK ?_
  simp (maxSteps := 5000000) (disch := first | (intro _; intros; contradiction) | omega) [i64_in, u8_in, vgd_t, vgd_f, wgd_t, wgd_f]
  (first | (refine hk _ ?_; clear hk; (try clear k)) | (clear hk; (try clear k); refine hk _ ?_; clear hk; (try clear k)) | (clear hk; (try clear k); clear hk; (try clear k); refine hk _ ?_; clear hk; (try clear k)) | (clear hk; (try clear k); clear hk; (try clear k); clear hk; (try clear k); refine hk _ ?_; clear hk; (try clear k)))
  refine awp_seq' fun k hk => awp_region (et := Try.et) Try.vtOK Try.etOK ?_
  simp (maxSteps := 5000000) (disch := first | (intro _; intros; contradiction) | omega) [i64_in, u8_in, vgd_t, vgd_f, wgd_t, wgd_f]
  refine ⟨by omega, ?_⟩
  (first | (refine hk _ ?_; clear hk; (try clear k)) | (clear hk; (try clear k); refine hk _ ?_; clear hk; (try clear k)) | (clear hk; (try clear k); clear hk; (try clear k); refine hk _ ?_; clear hk; (try clear k)) | (clear hk; (try clear k); clear hk; (try clear k); clear hk; (try clear k); refine hk _ ?_; clear hk; (try clear k)))
  obtain ⟨l, hl⟩ : ∃ l, n.ins.map (inV regs heads rooms) = l := ⟨_, rfl⟩
  have hll : l.length = n.ins.length := by rw [← hl]; simp
  rw [hl]
  refine awp_seq' fun k0 hk0 => ?_
  refine awp_seq' fun k1 hk1 => awp_region (et := Try.et) Try.vtOK Try.etOK ?_
  simp (maxSteps := 5000000) (disch := first | (intro _; intros; contradiction) | omega) [i64_in, u8_in, vgd_t, vgd_f, wgd_t, wgd_f]
  (refine hk1 _ ?_; clear hk1)
  refine awp_block (awp_for (fun q s => ∃ i : Nat, q = n.ins.length - i ∧ i ≤ n.ins.length ∧ s = ⟨[(19, tI .i64 i), (18, tI .i64 n.ins.length), (17, .c (.d (dW n.ins))), (9, .c (.row 240 n.ins.length)), (5, .c (.ptr 80 0)), (2, .c (.d (dH heads))), (3, .c (.d (dB rooms)))], [(240, .row false 4 1 n.ins.length fun j => [.s (.bool (decide (j < i) && l[j]?.getD false))]), (80, .box false [.d (dL regs), .d (dLL mems)])]⟩) n.ins.length (weak_mk (by simp) (by simp) (by simp)) ⟨0, by simp, by simp, rfl⟩ ?_)
  rintro q s ⟨i, rfl, hi', rfl⟩ k hk
  refine awp_seq' fun k1 hk1 => awp_region (et := Try.et) Try.vtOK Try.etOK ?_
  simp (maxSteps := 5000000) (disch := first | (intro _; intros; contradiction) | omega) [i64_in, u8_in, vgd_t, vgd_f, wgd_t, wgd_f]
  (refine hk1 _ ?_; clear hk1)
  refine awp_seq' fun k1 hk1 => ?_
  refine awp_cond rfl rfl (fun hc => ?_) (fun hc => ?_)
  · refine awp_skip ?_
    (refine hk1 _ ?_; clear hk1)
    simp at hc
    have hw := ok i hc
    have hli : l[i]?.getD false = inV regs heads rooms (n.ins[i]?.getD default) := by rw [← hl]; simp [hc]
    generalize hwe : n.ins[i]?.getD default = w at hw hli
    have hwe' : n.ins[i] = w := by simpa [hc] using hwe
    obtain ⟨hw1, hw2⟩ := hw
    refine awp_seq' fun k2 hk2 => ?_
    refine awp_block ?_
    refine awp_seq' fun k3 hk3 => awp_region (et := Try.et) Try.vtOK Try.etOK ?_
    simp (maxSteps := 5000000) (disch := first | (intro _; intros; contradiction) | omega) [i64_in, u8_in, vgd_t, vgd_f, wgd_t, wgd_f, hwe']
    refine ⟨hc, ?_⟩
    (refine hk3 _ ?_; clear hk3)
    have h3 : ∀ (s : St) (x : Bool), x = inV regs heads rooms w → Weak s ⟨[(19, tI .i64 i), (18, tI .i64 n.ins.length), (17, .c (.d (dW n.ins))), (9, .c (.row 240 n.ins.length)), (5, .c (.ptr 80 0)), (2, .c (.d (dH heads))), (3, .c (.d (dB rooms)))], [(240, .row false 4 1 n.ins.length fun j => if j = i then [.s (.bool x)] else [.s (.bool (decide (j < i) && l[j]?.getD false))]), (80, .box false [.d (dL regs), .d (dLL mems)])]⟩ → k2 s := by
      intro s x hx hw
      refine hk2 s (awp_weak hw ?_)
      refine awp_region (et := Try.et) Try.vtOK Try.etOK ?_
      simp (maxSteps := 5000000) (disch := first | (intro _; intros; contradiction) | omega) [i64_in, u8_in, vgd_t, vgd_f, wgd_t, wgd_f]
      refine hk _ ⟨[(19, tI .i64 (i + 1 : Nat)), (18, tI .i64 n.ins.length), (17, .c (.d (dW n.ins))), (9, .c (.row 240 n.ins.length)), (5, .c (.ptr 80 0)), (2, .c (.d (dH heads))), (3, .c (.d (dB rooms)))], [(240, .row false 4 1 n.ins.length fun j => [.s (.bool (decide (j < i + 1) && l[j]?.getD false))]), (80, .box false [.d (dL regs), .d (dLL mems)])]⟩ _ (by omega) ⟨i + 1, rfl, by omega, rfl⟩ (weak_mk (by simp) ?_ (by simp))
      simp
      refine LeD.ext fun j hj => ?_
      by_cases e : j = i
      · subst e
        simp [hx, hli]
      · have e2 : (j < i + 1) = (j < i) := by simp; omega
        simp [e, e2]
    refine awp_block ?_
    rcases (by omega : w.kind = 1 ∨ w.kind = 2 ∨ w.kind = 3 ∨ w.kind = 4 ∨ (w.kind ≠ 1 ∧ w.kind ≠ 2 ∧ w.kind ≠ 3 ∧ w.kind ≠ 4)) with hkd | hkd | hkd | hkd | hkd
    · skip
      refine awp_seq' fun k5 hk5 => awp_region (et := Try.et) Try.vtOK Try.etOK ?_
      simp (maxSteps := 5000000) (disch := first | (intro _; intros; contradiction) | omega) [i64_in, u8_in, vgd_t, vgd_f, wgd_t, wgd_f, hkd]
      (refine hk5 _ ?_; clear hk5)
      refine awp_cond rfl rfl (fun hc5 => ?_) (fun hc5 => ?_)
      · simp at hc5
        refine awp_region_draw (et := Try.et) Try.mixed Try.vtOK Try.etOK ?_
        simp (maxSteps := 5000000) (disch := first | (intro _; intros; contradiction) | omega) [i64_in, u8_in, vgd_t, vgd_f, wgd_t, wgd_f]
        refine ⟨⟨by omega, by omega⟩, ?_⟩
        refine wcall_fn rfl (by simp) (LeTs.refl _) (netsim_has_S _ _ (by omega)) ?_
        simp (maxSteps := 5000000) (disch := first | (intro _; intros; contradiction) | omega) [i64_in, u8_in, vgd_t, vgd_f, wgd_t, wgd_f]
        have hlt : w.i.toNat < regs.length := by omega
        refine ⟨hc, by kernel_rfl, h3 _ (hasB (regs[w.i.toNat]'hlt) w.bit) (by simp [inV, hkd, hc5, hlt]) (weak_mk (by simp) (by simp) (by simp))⟩
      · simp at hc5
        have hinv : inV regs heads rooms w = false := by simp [inV, hkd]; omega
        refine awp_seq' fun k5 hk5 => awp_region (et := Try.et) Try.vtOK Try.etOK ?_
        simp (maxSteps := 5000000) (disch := first | (intro _; intros; contradiction) | omega) [i64_in, u8_in, vgd_t, vgd_f, wgd_t, wgd_f, hkd]
        (refine hk5 _ ?_; clear hk5)
        refine awp_cond rfl rfl (fun hc5 => ?_) (fun hc5 => ?_)
        · simp at hc5
        · clear hc5
          refine awp_seq' fun k5 hk5 => awp_region (et := Try.et) Try.vtOK Try.etOK ?_
          simp (maxSteps := 5000000) (disch := first | (intro _; intros; contradiction) | omega) [i64_in, u8_in, vgd_t, vgd_f, wgd_t, wgd_f, hkd]
          (refine hk5 _ ?_; clear hk5)
          refine awp_cond rfl rfl (fun hc5 => ?_) (fun hc5 => ?_)
          · simp at hc5
          · clear hc5
            refine awp_seq' fun k5 hk5 => awp_region (et := Try.et) Try.vtOK Try.etOK ?_
            simp (maxSteps := 5000000) (disch := first | (intro _; intros; contradiction) | omega) [i64_in, u8_in, vgd_t, vgd_f, wgd_t, wgd_f, hkd]
            (refine hk5 _ ?_; clear hk5)
            refine awp_cond rfl rfl (fun hc5 => ?_) (fun hc5 => ?_)
            · simp at hc5
            · clear hc5
              refine awp_skip ?_
              exact h3 _ false hinv.symm (weak_mk (by simp) (by simp; exact LeD.ext fun j hj => by by_cases e : j = i <;> simp [e]) (by simp))
    · skip
      refine awp_seq' fun k5 hk5 => awp_region (et := Try.et) Try.vtOK Try.etOK ?_
      simp (maxSteps := 5000000) (disch := first | (intro _; intros; contradiction) | omega) [i64_in, u8_in, vgd_t, vgd_f, wgd_t, wgd_f, hkd]
      (refine hk5 _ ?_; clear hk5)
      refine awp_cond rfl rfl (fun hc5 => ?_) (fun hc5 => ?_)
      · simp at hc5
      · clear hc5
        refine awp_seq' fun k5 hk5 => awp_region (et := Try.et) Try.vtOK Try.etOK ?_
        simp (maxSteps := 5000000) (disch := first | (intro _; intros; contradiction) | omega) [i64_in, u8_in, vgd_t, vgd_f, wgd_t, wgd_f, hkd]
        (refine hk5 _ ?_; clear hk5)
        refine awp_cond rfl rfl (fun hc5 => ?_) (fun hc5 => ?_)
        · simp at hc5
          refine awp_region_draw (et := Try.et) Try.mixed Try.vtOK Try.etOK ?_
          simp (maxSteps := 5000000) (disch := first | (intro _; intros; contradiction) | omega) [i64_in, u8_in, vgd_t, vgd_f, wgd_t, wgd_f]
          have hlt : w.i.toNat < heads.length := by omega
          refine ⟨⟨hw1, hc5⟩, fun hh => ⟨⟨hw1, hc5⟩, ?_⟩, fun hh => ?_⟩
          · refine wcall_fn rfl (by simp) (LeTs.refl _) (netsim_has_S _ _ (by omega)) ?_
            simp (maxSteps := 5000000) (disch := first | (intro _; intros; contradiction) | omega) [i64_in, u8_in, vgd_t, vgd_f, wgd_t, wgd_f]
            refine ⟨hc, by kernel_rfl, h3 _ (hasB (heads[w.i.toNat]'hlt).2 w.bit) (by simp [inV, hkd, hc5, hlt, hh]) (weak_mk (by simp) (by simp) (by simp))⟩
          · refine ⟨hc, by kernel_rfl, h3 _ false (by simp [inV, hkd, hc5, hlt, hh]) (weak_mk (by simp) (by simp) (by simp))⟩
        · simp at hc5
          have hinv : inV regs heads rooms w = false := by simp [inV, hkd]; omega
          refine awp_seq' fun k5 hk5 => awp_region (et := Try.et) Try.vtOK Try.etOK ?_
          simp (maxSteps := 5000000) (disch := first | (intro _; intros; contradiction) | omega) [i64_in, u8_in, vgd_t, vgd_f, wgd_t, wgd_f, hkd]
          (refine hk5 _ ?_; clear hk5)
          refine awp_cond rfl rfl (fun hc5 => ?_) (fun hc5 => ?_)
          · simp at hc5
          · clear hc5
            refine awp_seq' fun k5 hk5 => awp_region (et := Try.et) Try.vtOK Try.etOK ?_
            simp (maxSteps := 5000000) (disch := first | (intro _; intros; contradiction) | omega) [i64_in, u8_in, vgd_t, vgd_f, wgd_t, wgd_f, hkd]
            (refine hk5 _ ?_; clear hk5)
            refine awp_cond rfl rfl (fun hc5 => ?_) (fun hc5 => ?_)
            · simp at hc5
            · clear hc5
              refine awp_skip ?_
              exact h3 _ false hinv.symm (weak_mk (by simp) (by simp; exact LeD.ext fun j hj => by by_cases e : j = i <;> simp [e]) (by simp))
    · skip
      refine awp_seq' fun k5 hk5 => awp_region (et := Try.et) Try.vtOK Try.etOK ?_
      simp (maxSteps := 5000000) (disch := first | (intro _; intros; contradiction) | omega) [i64_in, u8_in, vgd_t, vgd_f, wgd_t, wgd_f, hkd]
      (refine hk5 _ ?_; clear hk5)
      refine awp_cond rfl rfl (fun hc5 => ?_) (fun hc5 => ?_)
      · simp at hc5
      · clear hc5
        refine awp_seq' fun k5 hk5 => awp_region (et := Try.et) Try.vtOK Try.etOK ?_
        simp (maxSteps := 5000000) (disch := first | (intro _; intros; contradiction) | omega) [i64_in, u8_in, vgd_t, vgd_f, wgd_t, wgd_f, hkd]
        (refine hk5 _ ?_; clear hk5)
        refine awp_cond rfl rfl (fun hc5 => ?_) (fun hc5 => ?_)
        · simp at hc5
        · clear hc5
          refine awp_seq' fun k5 hk5 => awp_region (et := Try.et) Try.vtOK Try.etOK ?_
          simp (maxSteps := 5000000) (disch := first | (intro _; intros; contradiction) | omega) [i64_in, u8_in, vgd_t, vgd_f, wgd_t, wgd_f, hkd]
          (refine hk5 _ ?_; clear hk5)
          refine awp_cond rfl rfl (fun hc5 => ?_) (fun hc5 => ?_)
          · simp at hc5
            refine awp_region (et := Try.et) Try.vtOK Try.etOK ?_
            simp (maxSteps := 5000000) (disch := first | (intro _; intros; contradiction) | omega) [i64_in, u8_in, vgd_t, vgd_f, wgd_t, wgd_f]
            have hlt : w.i.toNat < heads.length := by omega
            refine ⟨⟨hw1, hc5⟩, hc, h3 _ ((heads[w.i.toNat]'hlt).1) (by simp [inV, hkd, hc5, hlt]) (weak_mk (by simp) (by simp) (by simp))⟩
          · simp at hc5
            have hinv : inV regs heads rooms w = false := by simp [inV, hkd]; omega
            refine awp_seq' fun k5 hk5 => awp_region (et := Try.et) Try.vtOK Try.etOK ?_
            simp (maxSteps := 5000000) (disch := first | (intro _; intros; contradiction) | omega) [i64_in, u8_in, vgd_t, vgd_f, wgd_t, wgd_f, hkd]
            (refine hk5 _ ?_; clear hk5)
            refine awp_cond rfl rfl (fun hc5 => ?_) (fun hc5 => ?_)
            · simp at hc5
            · clear hc5
              refine awp_skip ?_
              exact h3 _ false hinv.symm (weak_mk (by simp) (by simp; exact LeD.ext fun j hj => by by_cases e : j = i <;> simp [e]) (by simp))
    · skip
      refine awp_seq' fun k5 hk5 => awp_region (et := Try.et) Try.vtOK Try.etOK ?_
      simp (maxSteps := 5000000) (disch := first | (intro _; intros; contradiction) | omega) [i64_in, u8_in, vgd_t, vgd_f, wgd_t, wgd_f, hkd]
      (refine hk5 _ ?_; clear hk5)
      refine awp_cond rfl rfl (fun hc5 => ?_) (fun hc5 => ?_)
      · simp at hc5
      · clear hc5
        refine awp_seq' fun k5 hk5 => awp_region (et := Try.et) Try.vtOK Try.etOK ?_
        simp (maxSteps := 5000000) (disch := first | (intro _; intros; contradiction) | omega) [i64_in, u8_in, vgd_t, vgd_f, wgd_t, wgd_f, hkd]
        (refine hk5 _ ?_; clear hk5)
        refine awp_cond rfl rfl (fun hc5 => ?_) (fun hc5 => ?_)
        · simp at hc5
        · clear hc5
          refine awp_seq' fun k5 hk5 => awp_region (et := Try.et) Try.vtOK Try.etOK ?_
          simp (maxSteps := 5000000) (disch := first | (intro _; intros; contradiction) | omega) [i64_in, u8_in, vgd_t, vgd_f, wgd_t, wgd_f, hkd]
          (refine hk5 _ ?_; clear hk5)
          refine awp_cond rfl rfl (fun hc5 => ?_) (fun hc5 => ?_)
          · simp at hc5
          · clear hc5
            refine awp_seq' fun k5 hk5 => awp_region (et := Try.et) Try.vtOK Try.etOK ?_
            simp (maxSteps := 5000000) (disch := first | (intro _; intros; contradiction) | omega) [i64_in, u8_in, vgd_t, vgd_f, wgd_t, wgd_f, hkd]
            (refine hk5 _ ?_; clear hk5)
            refine awp_cond rfl rfl (fun hc5 => ?_) (fun hc5 => ?_)
            · simp at hc5
              refine awp_region (et := Try.et) Try.vtOK Try.etOK ?_
              simp (maxSteps := 5000000) (disch := first | (intro _; intros; contradiction) | omega) [i64_in, u8_in, vgd_t, vgd_f, wgd_t, wgd_f]
              have hlt : w.i.toNat < rooms.length := by omega
              refine ⟨⟨hw1, hc5⟩, hc, h3 _ (rooms[w.i.toNat]'hlt) (by simp [inV, hkd, hc5, hlt]) (weak_mk (by simp) (by simp) (by simp))⟩
            · simp at hc5
              have hinv : inV regs heads rooms w = false := by simp [inV, hkd]; omega
              refine awp_skip ?_
              exact h3 _ false hinv.symm (weak_mk (by simp) (by simp; exact LeD.ext fun j hj => by by_cases e : j = i <;> simp [e]) (by simp))
    · skip
      have hb1 : (w.kind == 1) = false := by simpa using hkd.1
      have hb2 : (w.kind == 2) = false := by simpa using hkd.2.1
      have hb3 : (w.kind == 3) = false := by simpa using hkd.2.2.1
      have hb4 : (w.kind == 4) = false := by simpa using hkd.2.2.2
      refine awp_seq' fun k5 hk5 => awp_region (et := Try.et) Try.vtOK Try.etOK ?_
      simp (maxSteps := 5000000) (disch := first | (intro _; intros; contradiction) | omega) [i64_in, u8_in, vgd_t, vgd_f, wgd_t, wgd_f, hb1, hb2, hb3, hb4]
      (refine hk5 _ ?_; clear hk5)
      refine awp_cond rfl rfl (fun hc5 => ?_) (fun hc5 => ?_)
      · simp at hc5
      · clear hc5
        refine awp_seq' fun k5 hk5 => awp_region (et := Try.et) Try.vtOK Try.etOK ?_
        simp (maxSteps := 5000000) (disch := first | (intro _; intros; contradiction) | omega) [i64_in, u8_in, vgd_t, vgd_f, wgd_t, wgd_f, hb1, hb2, hb3, hb4]
        (refine hk5 _ ?_; clear hk5)
        refine awp_cond rfl rfl (fun hc5 => ?_) (fun hc5 => ?_)
        · simp at hc5
        · clear hc5
          refine awp_seq' fun k5 hk5 => awp_region (et := Try.et) Try.vtOK Try.etOK ?_
          simp (maxSteps := 5000000) (disch := first | (intro _; intros; contradiction) | omega) [i64_in, u8_in, vgd_t, vgd_f, wgd_t, wgd_f, hb1, hb2, hb3, hb4]
          (refine hk5 _ ?_; clear hk5)
          refine awp_cond rfl rfl (fun hc5 => ?_) (fun hc5 => ?_)
          · simp at hc5
          · clear hc5
            refine awp_seq' fun k5 hk5 => awp_region (et := Try.et) Try.vtOK Try.etOK ?_
            simp (maxSteps := 5000000) (disch := first | (intro _; intros; contradiction) | omega) [i64_in, u8_in, vgd_t, vgd_f, wgd_t, wgd_f, hb1, hb2, hb3, hb4]
            (refine hk5 _ ?_; clear hk5)
            refine awp_cond rfl rfl (fun hc5 => ?_) (fun hc5 => ?_)
            · simp at hc5
            · clear hc5
              refine awp_skip ?_
              have hinv : inV regs heads rooms w = false := by simp [inV, hkd]
              exact h3 _ false hinv.symm (weak_mk (by simp) (by simp; exact LeD.ext fun j hj => by by_cases e : j = i <;> simp [e]) (by simp))
  · refine awp_exit ?_
    simp at hc ⊢
    have : i = n.ins.length := by omega
    subst this
    (refine hk0 _ ?_; clear hk0)
    refine awp_seq' fun k4 hk4 => awp_region (et := Try.et) Try.vtOK Try.etOK ?_
    simp (maxSteps := 5000000) (disch := first | (intro _; intros; contradiction) | omega) [i64_in, u8_in, vgd_t, vgd_f, wgd_t, wgd_f]
    (refine hk4 _ ?_; clear hk4)
    refine awp_ret ⟨.inr rfl, ?_⟩
    simp
    rw [← hll]
    exact LeD.ext fun j hj => by simp [hj]
end Go.Proofs

/- NQ2: the effect of outputs, in plain Lean: two maps are filled, and read. -/
namespace Go.Proofs
open Go.V

def pget {α : Type} (d : α) : List (List Int × α) → List Int → α
  | [], _ => d
  | p :: r, x => if p.1 = x then p.2 else pget d r x
def pput {α : Type} : List (List Int × α) → List Int → α → List (List Int × α)
  | [], x, v => [(x, v)]
  | p :: r, x, v => if p.1 = x then (x, v) :: r else p :: pput r x v
theorem pget_pput {α : Type} (d : α) (l : List (List Int × α)) (x y : List Int) (v : α) : pget d (pput l x v) y = if x = y then v else pget d l y := by
  induction l with
  | nil => rfl
  | cons p r ih =>
    simp only [pput, pget]
    by_cases e : p.1 = x
    · rw [if_pos e]
      simp only [pget, e]
      split <;> simp_all
    · rw [if_neg e]
      simp only [pget, ih]
      by_cases e2 : p.1 = y
      · have : ¬ x = y := fun h => e (e2.trans h.symm)
        simp [e2, this]
      · simp [e2]
def mV {α : Type} (f : α → Value) (l : List (List Int × α)) : List (List Int × Value) := l.map fun p => (p.1, f p.2)
theorem aget_mV {α : Type} (f : α → Value) (d : α) (l : List (List Int × α)) (x : List Int) : (aget (mV f l) x).getD (f d) = f (pget d l x) := by
  induction l with
  | nil => rfl
  | cons p r ih =>
    unfold aget at ih ⊢
    simp only [mV, List.map_cons, aix, pget] at ih ⊢
    split
    · simp
    · simpa using ih
theorem aput_mV {α : Type} (f : α → Value) (l : List (List Int × α)) (x : List Int) (v : α) : aput (mV f l) x (f v) = mV f (pput l x v) := by
  induction l with
  | nil => rfl
  | cons p r ih =>
    simp only [mV, List.map_cons, aput, pput] at ih ⊢
    split
    · simp
    · simp [ih]
def mI (l : List (List Int × Int)) : List (List Int × Value) := mV (Value.int .i64) l
def mB (l : List (List Int × Bool)) : List (List Int × Value) := mV Value.bool l
@[simp] theorem aget_mI (l : List (List Int × Int)) (x : List Int) : (aget (mI l) x).getD (.int .i64 0) = .int .i64 (pget 0 l x) := aget_mV (Value.int .i64) 0 l x
@[simp] theorem aget_mB (l : List (List Int × Bool)) (x : List Int) : (aget (mB l) x).getD (.bool false) = .bool (pget false l x) := aget_mV Value.bool false l x
@[simp] theorem aput_mI (l : List (List Int × Int)) (x : List Int) (v : Int) : aput (mI l) x (.int .i64 v) = mI (pput l x v) := aput_mV (Value.int .i64) l x v
@[simp] theorem aput_mB (l : List (List Int × Bool)) (x : List Int) (v : Bool) : aput (mB l) x (.bool v) = mB (pput l x v) := aput_mV Value.bool l x v
theorem mI_nil : mI [] = [] := rfl
theorem mB_nil : mB [] = [] := rfl

/-- What is set, and the words, behind i outputs. -/
def setM (outs : List Wi) (vals : List Bool) : Nat → List (List Int × Bool)
  | 0 => []
  | i + 1 => if vals[i]?.getD false then pput (setM outs vals i) [(outs[i]?.getD default).kind, (outs[i]?.getD default).i] true else setM outs vals i
def wordM (outs : List Wi) (vals : List Bool) : Nat → List (List Int × Int)
  | 0 => []
  | i + 1 => if vals[i]?.getD false then pput (wordM outs vals i) [(outs[i]?.getD default).kind, (outs[i]?.getD default).i] (orV .i64 (pget 0 (wordM outs vals i) [(outs[i]?.getD default).kind, (outs[i]?.getD default).i]) (shlV .i64 1 (outs[i]?.getD default).bit)) else wordM outs vals i
/-- A memory behind a step. -/
def memB (S : List (List Int × Bool)) (W : List (List Int × Int)) (j : Nat) (m : List Int) : List Int :=
  if pget false S [8, (j : Int)] && decide (pget 0 W [9, (j : Int)] < m.length) then m.set (pget 0 W [9, (j : Int)]).toNat (pget 0 W [10, (j : Int)]) else m
def memO (S : List (List Int × Bool)) (W : List (List Int × Int)) (mems : List (List Int)) (j : Nat) : List Int := memB S W j (mems[j]?.getD [])
end Go.Proofs

namespace Go.Proofs
open Go.V IntWalk
set_option maxRecDepth 100000
set_option linter.unusedSimpArgs false
set_option linter.unusedVariables false

theorem slices_Clone_int_S (xs : List Int) (hx : xs.length < 1000000) : FSpec Try.prog 112 [.c (.d (dL xs))] [] (.c (.d (dL xs))) [] := by
  by_cases h0 : xs = []
  · subst h0
    refine FSpec.slice0 fun a cap => ?_
    refine fspec_intro Try.func112 (by kernel_rfl) rfl Try.vtOK rfl Try.ntmps112 (by simp) ?_
    refine awp_seq' fun k hk => awp_region (et := Try.et) Try.vtOK Try.etOK ?_
    simp (maxSteps := 5000000) (disch := first | (intro _; intros; contradiction) | omega) [i64_in, u8_in, vgd_t, vgd_f, wgd_t, wgd_f]
    (first | (refine hk _ ?_; clear hk; (try clear k)) | (clear hk; (try clear k); refine hk _ ?_; clear hk; (try clear k)) | (clear hk; (try clear k); clear hk; (try clear k); refine hk _ ?_; clear hk; (try clear k)) | (clear hk; (try clear k); clear hk; (try clear k); clear hk; (try clear k); refine hk _ ?_; clear hk; (try clear k)))
    refine awp_seq' fun k1 hk1 => ?_
    refine awp_seq' fun k hk => awp_region (et := Try.et) Try.vtOK Try.etOK ?_
    simp (maxSteps := 5000000) (disch := first | (intro _; intros; contradiction) | omega) [i64_in, u8_in, vgd_t, vgd_f, wgd_t, wgd_f]
    (first | (refine hk _ ?_; clear hk; (try clear k)) | (clear hk; (try clear k); refine hk _ ?_; clear hk; (try clear k)) | (clear hk; (try clear k); clear hk; (try clear k); refine hk _ ?_; clear hk; (try clear k)) | (clear hk; (try clear k); clear hk; (try clear k); clear hk; (try clear k); refine hk _ ?_; clear hk; (try clear k)))
    refine awp_cond rfl rfl (fun hc => ?_) (fun hc => ?_)
    · refine awp_seq' fun k hk => awp_region (et := Try.et) Try.vtOK Try.etOK ?_
      simp (maxSteps := 5000000) (disch := first | (intro _; intros; contradiction) | omega) [i64_in, u8_in, vgd_t, vgd_f, wgd_t, wgd_f]
      (first | (refine hk _ ?_; clear hk; (try clear k)) | (clear hk; (try clear k); refine hk _ ?_; clear hk; (try clear k)) | (clear hk; (try clear k); clear hk; (try clear k); refine hk _ ?_; clear hk; (try clear k)) | (clear hk; (try clear k); clear hk; (try clear k); clear hk; (try clear k); refine hk _ ?_; clear hk; (try clear k)))
      refine awp_ret ⟨.inr rfl, ?_⟩
      simp
    · refine awp_skip ?_
      (refine hk1 _ ?_; clear hk1)
      refine awp_seq' fun k hk => awp_region (et := Try.et) Try.vtOK Try.etOK ?_
      simp (maxSteps := 5000000) (disch := first | (intro _; intros; contradiction) | omega) [i64_in, u8_in, vgd_t, vgd_f, wgd_t, wgd_f]
      (first | (refine hk _ ?_; clear hk; (try clear k)) | (clear hk; (try clear k); refine hk _ ?_; clear hk; (try clear k)) | (clear hk; (try clear k); clear hk; (try clear k); refine hk _ ?_; clear hk; (try clear k)) | (clear hk; (try clear k); clear hk; (try clear k); clear hk; (try clear k); refine hk _ ?_; clear hk; (try clear k)))
      refine awp_ret ⟨.inr rfl, ?_⟩
      simp
      exact LeD_dL rfl fun j hj => by omega
  · have hp : 0 < xs.length := by cases xs <;> simp_all
    refine fspec_intro Try.func112 (by kernel_rfl) rfl Try.vtOK rfl Try.ntmps112 (by simp) ?_
    refine awp_seq' fun k hk => awp_region (et := Try.et) Try.vtOK Try.etOK ?_
    simp (maxSteps := 5000000) (disch := first | (intro _; intros; contradiction) | omega) [i64_in, u8_in, vgd_t, vgd_f, wgd_t, wgd_f]
    (first | (refine hk _ ?_; clear hk; (try clear k)) | (clear hk; (try clear k); refine hk _ ?_; clear hk; (try clear k)) | (clear hk; (try clear k); clear hk; (try clear k); refine hk _ ?_; clear hk; (try clear k)) | (clear hk; (try clear k); clear hk; (try clear k); clear hk; (try clear k); refine hk _ ?_; clear hk; (try clear k)))
    refine awp_seq' fun k1 hk1 => ?_
    refine awp_seq' fun k hk => awp_region (et := Try.et) Try.vtOK Try.etOK ?_
    simp (maxSteps := 5000000) (disch := first | (intro _; intros; contradiction) | omega) [i64_in, u8_in, vgd_t, vgd_f, wgd_t, wgd_f, dL]
    refine ⟨hp, ?_⟩
    (first | (refine hk _ ?_; clear hk; (try clear k)) | (clear hk; (try clear k); refine hk _ ?_; clear hk; (try clear k)) | (clear hk; (try clear k); clear hk; (try clear k); refine hk _ ?_; clear hk; (try clear k)) | (clear hk; (try clear k); clear hk; (try clear k); clear hk; (try clear k); refine hk _ ?_; clear hk; (try clear k)))
    refine awp_cond rfl rfl (fun hc => ?_) (fun hc => ?_)
    · simp at hc
    · refine awp_skip ?_
      (refine hk1 _ ?_; clear hk1)
      refine awp_seq' fun k hk => awp_region (et := Try.et) Try.vtOK Try.etOK ?_
      simp (maxSteps := 5000000) (disch := first | (intro _; intros; contradiction) | omega) [i64_in, u8_in, vgd_t, vgd_f, wgd_t, wgd_f]
      refine ⟨by omega, ?_⟩
      (first | (refine hk _ ?_; clear hk; (try clear k)) | (clear hk; (try clear k); refine hk _ ?_; clear hk; (try clear k)) | (clear hk; (try clear k); clear hk; (try clear k); refine hk _ ?_; clear hk; (try clear k)) | (clear hk; (try clear k); clear hk; (try clear k); clear hk; (try clear k); refine hk _ ?_; clear hk; (try clear k)))
      refine awp_ret ⟨.inr rfl, ?_⟩
      simp
      exact LeD_dL rfl fun j hj => by simp [appF]


theorem slices_Clone_int_O (xs : List Int) (h0 : 0 < xs.length) (hx : xs.length < 1000000) : FSpec Try.prog 112 [.c (.d (dL xs))] [] (tupOf [.c (.row 80 xs.length)]) [(80, .row false 3 1 xs.length fun j => [.s (.int .i64 (xs[j]?.getD 0))])] := by
  refine fspec_introM (ma := _) Try.func112 (by kernel_rfl) rfl Try.vtOK rfl Try.ntmps112 (by simp) (by simp [lk_cons]) ?_
  refine awp_seq' fun k hk => awp_region (et := Try.et) Try.vtOK Try.etOK ?_
  simp (maxSteps := 5000000) (disch := first | (intro _; intros; contradiction) | omega) [i64_in, u8_in, vgd_t, vgd_f, wgd_t, wgd_f]
  (first | (refine hk _ ?_; clear hk; (try clear k)) | (clear hk; (try clear k); refine hk _ ?_; clear hk; (try clear k)) | (clear hk; (try clear k); clear hk; (try clear k); refine hk _ ?_; clear hk; (try clear k)) | (clear hk; (try clear k); clear hk; (try clear k); clear hk; (try clear k); refine hk _ ?_; clear hk; (try clear k)))
  refine awp_seq' fun k1 hk1 => ?_
  refine awp_seq' fun k hk => awp_region (et := Try.et) Try.vtOK Try.etOK ?_
  simp (maxSteps := 5000000) (disch := first | (intro _; intros; contradiction) | omega) [i64_in, u8_in, vgd_t, vgd_f, wgd_t, wgd_f, dL]
  refine ⟨h0, ?_⟩
  (first | (refine hk _ ?_; clear hk; (try clear k)) | (clear hk; (try clear k); refine hk _ ?_; clear hk; (try clear k)) | (clear hk; (try clear k); clear hk; (try clear k); refine hk _ ?_; clear hk; (try clear k)) | (clear hk; (try clear k); clear hk; (try clear k); clear hk; (try clear k); refine hk _ ?_; clear hk; (try clear k)))
  refine awp_cond rfl rfl (fun hc => ?_) (fun hc => ?_)
  · simp at hc
  · refine awp_skip ?_
    (refine hk1 _ ?_; clear hk1)
    refine awp_seq' fun k hk => awp_region (et := Try.et) Try.vtOK Try.etOK ?_
    simp (maxSteps := 5000000) (disch := first | (intro _; intros; contradiction) | omega) [i64_in, u8_in, vgd_t, vgd_f, wgd_t, wgd_f]
    refine ⟨by omega, ?_⟩
    (first | (refine hk _ ?_; clear hk; (try clear k)) | (clear hk; (try clear k); refine hk _ ?_; clear hk; (try clear k)) | (clear hk; (try clear k); clear hk; (try clear k); refine hk _ ?_; clear hk; (try clear k)) | (clear hk; (try clear k); clear hk; (try clear k); clear hk; (try clear k); refine hk _ ?_; clear hk; (try clear k)))
    refine awp_ret ⟨.inr rfl, ?_⟩
    simp

theorem appN (n : Nat) (f : Nat → List D) (x : List D) (h : f n = x) : LeF (n + 1) (appF n f (fun j => [x][j]?.getD [])) f :=
  LeD.ext fun j hj => by
    unfold appF
    split
    · rfl
    · have : j = n := by omega
      subst this
      simp [h]

theorem appM (n : Nat) (f : Nat → List D) (x y : D) (h : f n = [y]) (hxy : LeD x y) : LeF (n + 1) (appF n f (fun j => [[x]][j]?.getD [])) f :=
  .l (fun j hj => by
    unfold appF
    split
    · rfl
    · have : j = n := by omega
      subst this
      simp [h]) fun j q u v hj hu hv => by
    unfold appF at hu
    split at hu
    · rw [hv] at hu; injection hu with hu; subst hu; exact .refl _
    · have : j = n := by omega
      subst this
      rw [h] at hv
      cases q with
      | zero => simp at hu hv; subst hu hv; exact hxy
      | succ q => simp at hv

theorem netsim_Effect_S (n : Nt) (regs : List Int) (mems : List (List Int)) (vals : List Bool) (e0 e1 : Int) (hn : n.outs.length < 1000000) (hv : vals.length = n.outs.length) (hr : regs.length < 1000000) (hm : mems.length < 1000000) (hml : ∀ m ∈ mems, m.length < 1000000) (he0 : e0 < 1000000) (he1 : e1 < 1000000)
    (ok : ∀ i < n.outs.length, 0 ≤ (n.outs[i]?.getD default).bit) (oka : ∀ i : Nat, 0 ≤ pget 0 (wordM n.outs vals n.outs.length) [9, (i : Int)]) :
    FSpec Try.prog 80 [.agg n.c_, .agg [.d (dL regs), .d (dLL mems)], .c (.d (dB vals)), .agg [.d (.s (.int .i64 e0)), .d (.s (.int .i64 e1))]] [] (.agg [.d (.s (.bool false)), .d (dL ((List.range regs.length).map fun q : Nat => pget 0 (wordM n.outs vals n.outs.length) [1, (q : Int)])), .d (dLL ((List.range mems.length).map (memO (setM n.outs vals n.outs.length) (wordM n.outs vals n.outs.length) mems))), .d (dB ((List.range e0.toNat).map fun q : Nat => pget false (setM n.outs vals n.outs.length) [5, (q : Int)])), .d (dH ((List.range e1.toNat).map fun q : Nat => (pget false (setM n.outs vals n.outs.length) [6, (q : Int)], if pget false (setM n.outs vals n.outs.length) [6, (q : Int)] then pget 0 (wordM n.outs vals n.outs.length) [7, (q : Int)] else 0)))]) [] := by
  refine fspec_intro Try.func80 (by kernel_rfl) rfl Try.vtOK rfl Try.ntmps80 (by simp) ?_
  refine awp_seq' fun k hk => awp_region (et := Try.et) Try.vtOK Try.etOK ?_
  simp (maxSteps := 5000000) (disch := first | (intro _; intros; contradiction) | omega) [i64_in, u8_in, vgd_t, vgd_f, wgd_t, wgd_f]
  (first | (refine hk _ ?_; clear hk; (try clear k)) | (clear hk; (try clear k); refine hk _ ?_; clear hk; (try clear k)) | (clear hk; (try clear k); clear hk; (try clear k); refine hk _ ?_; clear hk; (try clear k)) | (clear hk; (try clear k); clear hk; (try clear k); clear hk; (try clear k); refine hk _ ?_; clear hk; (try clear k)))
  refine awp_seq' fun k hk => awp_region (et := Try.et) Try.vtOK Try.etOK ?_
  simp (maxSteps := 5000000) (disch := first | (intro _; intros; contradiction) | omega) [i64_in, u8_in, vgd_t, vgd_f, wgd_t, wgd_f]
  (first | (refine hk _ ?_; clear hk; (try clear k)) | (clear hk; (try clear k); refine hk _ ?_; clear hk; (try clear k)) | (clear hk; (try clear k); clear hk; (try clear k); refine hk _ ?_; clear hk; (try clear k)) | (clear hk; (try clear k); clear hk; (try clear k); clear hk; (try clear k); refine hk _ ?_; clear hk; (try clear k)))
  refine awp_seq' fun k0 hk0 => ?_
  refine awp_seq' fun k1 hk1 => awp_region (et := Try.et) Try.vtOK Try.etOK ?_
  simp (maxSteps := 5000000) (disch := first | (intro _; intros; contradiction) | omega) [i64_in, u8_in, vgd_t, vgd_f, wgd_t, wgd_f]
  (refine hk1 _ ?_; clear hk1)
  refine awp_block (awp_for (fun q s => ∃ i : Nat, q = n.outs.length - i ∧ i ≤ n.outs.length ∧ s = ⟨[(26, tI .i64 i), (25, tI .i64 n.outs.length), (24, .c (.d (dW n.outs))), (2, .c (.d (dB vals))), (9, .c (.mp 336)), (10, .c (.mp 352)), (5, .c (.ptr 80 0)), (7, .c (.ptr 112 0)), (8, .c (.ptr 128 0))], [(336, .map 2 true (mB (setM n.outs vals i))), (352, .map 2 true (mI (wordM n.outs vals i))), (80, .box false [.d (dL regs), .d (dLL mems)]), (112, .box false [.d (.s (.int .i64 e0)), .d (.s (.int .i64 e1))]), (128, .box false [.d (.s (.bool false)), .d (.s (.slice none 0 0)), .d (.s (.slice none 0 0)), .d (.s (.slice none 0 0)), .d (.s (.slice none 0 0))])]⟩) n.outs.length (weak_mk (by simp) (by simp [setM, wordM, mI_nil, mB_nil]) (by simp)) ⟨0, by simp, by simp, rfl⟩ ?_)
  rintro q s ⟨i, rfl, hi', rfl⟩ k hk
  refine awp_seq' fun k1 hk1 => awp_region (et := Try.et) Try.vtOK Try.etOK ?_
  simp (maxSteps := 5000000) (disch := first | (intro _; intros; contradiction) | omega) [i64_in, u8_in, vgd_t, vgd_f, wgd_t, wgd_f]
  (refine hk1 _ ?_; clear hk1)
  refine awp_seq' fun k1 hk1 => ?_
  refine awp_cond rfl rfl (fun hc => ?_) (fun hc => ?_)
  · refine awp_skip ?_
    (refine hk1 _ ?_; clear hk1)
    simp at hc
    have hw := ok i hc
    have hsS : setM n.outs vals (i + 1) = if vals[i]?.getD false then pput (setM n.outs vals i) [(n.outs[i]?.getD default).kind, (n.outs[i]?.getD default).i] true else setM n.outs vals i := rfl
    have hsW : wordM n.outs vals (i + 1) = if vals[i]?.getD false then pput (wordM n.outs vals i) [(n.outs[i]?.getD default).kind, (n.outs[i]?.getD default).i] (orV .i64 (pget 0 (wordM n.outs vals i) [(n.outs[i]?.getD default).kind, (n.outs[i]?.getD default).i]) (shlV .i64 1 (n.outs[i]?.getD default).bit)) else wordM n.outs vals i := rfl
    generalize hwe : n.outs[i]?.getD default = w at hw hsS hsW
    have hwe' : n.outs[i] = w := by simpa [hc] using hwe
    refine awp_seq' fun k2 hk2 => ?_
    refine awp_block ?_
    refine awp_seq' fun k3 hk3 => awp_region (et := Try.et) Try.vtOK Try.etOK ?_
    simp (maxSteps := 5000000) (disch := first | (intro _; intros; contradiction) | omega) [i64_in, u8_in, vgd_t, vgd_f, wgd_t, wgd_f, hwe']
    refine ⟨hc, ?_⟩
    (refine hk3 _ ?_; clear hk3)
    refine awp_seq' fun k4 hk4 => awp_region (et := Try.et) Try.vtOK Try.etOK ?_
    simp (maxSteps := 5000000) (disch := first | (intro _; intros; contradiction) | omega) [i64_in, u8_in, vgd_t, vgd_f, wgd_t, wgd_f]
    refine ⟨by omega, ?_⟩
    (refine hk4 _ ?_; clear hk4)
    have h3 : ∀ s : St, Weak s ⟨[(26, tI .i64 i), (25, tI .i64 n.outs.length), (24, .c (.d (dW n.outs))), (2, .c (.d (dB vals))), (9, .c (.mp 336)), (10, .c (.mp 352)), (5, .c (.ptr 80 0)), (7, .c (.ptr 112 0)), (8, .c (.ptr 128 0))], [(336, .map 2 true (mB (setM n.outs vals (i + 1)))), (352, .map 2 true (mI (wordM n.outs vals (i + 1)))), (80, .box false [.d (dL regs), .d (dLL mems)]), (112, .box false [.d (.s (.int .i64 e0)), .d (.s (.int .i64 e1))]), (128, .box false [.d (.s (.bool false)), .d (.s (.slice none 0 0)), .d (.s (.slice none 0 0)), .d (.s (.slice none 0 0)), .d (.s (.slice none 0 0))])]⟩ → k2 s := by
      intro s hw
      refine hk2 s (awp_weak hw ?_)
      refine awp_region (et := Try.et) Try.vtOK Try.etOK ?_
      simp (maxSteps := 5000000) (disch := first | (intro _; intros; contradiction) | omega) [i64_in, u8_in, vgd_t, vgd_f, wgd_t, wgd_f]
      refine hk _ ⟨[(26, tI .i64 (i + 1 : Nat)), (25, tI .i64 n.outs.length), (24, .c (.d (dW n.outs))), (2, .c (.d (dB vals))), (9, .c (.mp 336)), (10, .c (.mp 352)), (5, .c (.ptr 80 0)), (7, .c (.ptr 112 0)), (8, .c (.ptr 128 0))], [(336, .map 2 true (mB (setM n.outs vals (i + 1)))), (352, .map 2 true (mI (wordM n.outs vals (i + 1)))), (80, .box false [.d (dL regs), .d (dLL mems)]), (112, .box false [.d (.s (.int .i64 e0)), .d (.s (.int .i64 e1))]), (128, .box false [.d (.s (.bool false)), .d (.s (.slice none 0 0)), .d (.s (.slice none 0 0)), .d (.s (.slice none 0 0)), .d (.s (.slice none 0 0))])]⟩ _ (by omega) ⟨i + 1, rfl, by omega, rfl⟩ (weak_mk (by simp) (by simp) (by simp))
    have hvi : vals[i]?.getD false = vals[i] := by simp [hv, hc]
    rw [hvi] at hsS hsW
    refine awp_cond rfl rfl (fun hc4 => ?_) (fun hc4 => ?_)
    · rw [if_pos (by simpa using hc4)] at hsS hsW
      rw [hsS, hsW] at h3
      refine awp_seq' fun k5 hk5 => awp_region (et := Try.et) Try.vtOK Try.etOK ?_
      simp (maxSteps := 5000000) (disch := first | (intro _; intros; contradiction) | omega) [i64_in, u8_in, vgd_t, vgd_f, wgd_t, wgd_f]
      (refine hk5 _ ?_; clear hk5)
      refine awp_region_draw (et := Try.et) Try.mixed Try.vtOK Try.etOK ?_
      simp (maxSteps := 5000000) (disch := first | (intro _; intros; contradiction) | omega) [i64_in, u8_in, vgd_t, vgd_f, wgd_t, wgd_f]
      refine ⟨hw, by kernel_rfl, h3 _ (weak_mk (by simp) (by simp) (by simp))⟩
    · refine awp_skip ?_
      rw [if_neg (by simpa using hc4)] at hsS hsW
      rw [hsS, hsW] at h3
      exact h3 _ (weak_mk (by simp) (by simp) (by simp))
  · refine awp_exit ?_
    simp at hc ⊢
    have : i = n.outs.length := by omega
    subst this
    (refine hk0 _ ?_; clear hk0)
    clear ok hc hi' hk
    generalize setM n.outs vals n.outs.length = S
    generalize wordM n.outs vals n.outs.length = W at *
    refine awp_seq' fun k1 hk1 => awp_region (et := Try.et) Try.vtOK Try.etOK ?_
    simp (maxSteps := 5000000) (disch := first | (intro _; intros; contradiction) | omega) [i64_in, u8_in, vgd_t, vgd_f, wgd_t, wgd_f]
    (refine hk1 _ ?_; clear hk1)
    refine awp_seq' fun k2 hk2 => ?_
    refine awp_seq' fun k3 hk3 => awp_region (et := Try.et) Try.vtOK Try.etOK ?_
    simp (maxSteps := 5000000) (disch := first | (intro _; intros; contradiction) | omega) [i64_in, u8_in, vgd_t, vgd_f, wgd_t, wgd_f]
    (refine hk3 _ ?_; clear hk3)
    refine awp_block (awp_for (fun q s => ∃ j : Nat, q = regs.length - j ∧ j ≤ regs.length ∧ s = ⟨[(58, tI .i64 j), (57, tI .i64 regs.length), (13, .c (.ptr 208 0)), (9, .c (.mp 336)), (10, .c (.mp 352)), (5, .c (.ptr 80 0)), (7, .c (.ptr 112 0)), (8, .c (.ptr 128 0))], [(3001, .row false 3 1 j fun q => [.s (.int .i64 (pget 0 W [1, (q : Int)]))]), (208, .box false [.d (.s (.bool false)), .row 3001 j, .d (.s (.slice none 0 0)), .d (.s (.slice none 0 0)), .d (.s (.slice none 0 0))]), (336, .map 2 true (mB (S))), (352, .map 2 true (mI (W))), (80, .box false [.d (dL regs), .d (dLL mems)]), (112, .box false [.d (.s (.int .i64 e0)), .d (.s (.int .i64 e1))]), (128, .box false [.d (.s (.bool false)), .d (.s (.slice none 0 0)), .d (.s (.slice none 0 0)), .d (.s (.slice none 0 0)), .d (.s (.slice none 0 0))])]⟩) regs.length
      ((weak_nilB (cs := [.d (.s (.bool false)), .d (.s (.slice none 0 0)), .d (.s (.slice none 0 0)), .d (.s (.slice none 0 0)), .d (.s (.slice none 0 0))]) (b := 208) (i := 1) (n := 3001) (ty := 3) (sz := 1) (fun q => [.s (.int .i64 (pget 0 W [1, (q : Int)]))]) (by simp) (by simp) (by simp)).trans (weak_mk (by simp) (by simp) (by simp))) ⟨0, by simp, by simp, rfl⟩ ?_)
    · rintro q s ⟨j, rfl, hj, rfl⟩ k hk
      refine awp_seq' fun k4 hk4 => awp_region (et := Try.et) Try.vtOK Try.etOK ?_
      simp (maxSteps := 5000000) (disch := first | (intro _; intros; contradiction) | omega) [i64_in, u8_in, vgd_t, vgd_f, wgd_t, wgd_f]
      (refine hk4 _ ?_; clear hk4)
      refine awp_seq' fun k5 hk5 => ?_
      refine awp_cond rfl rfl (fun hc => ?_) (fun hc => ?_)
      · refine awp_skip ?_
        (refine hk5 _ ?_; clear hk5)
        simp at hc
        refine awp_seq' fun k6 hk6 => ?_
        refine awp_block ?_
        refine awp_seq' fun k7 hk7 => awp_region (et := Try.et) Try.vtOK Try.etOK ?_
        simp (maxSteps := 5000000) (disch := first | (intro _; intros; contradiction) | omega) [i64_in, u8_in, vgd_t, vgd_f, wgd_t, wgd_f]
        (refine hk7 _ ?_; clear hk7)
        refine awp_region_draw (et := Try.et) Try.mixed Try.vtOK Try.etOK ?_
        simp (maxSteps := 5000000) (disch := first | (intro _; intros; contradiction) | omega) [i64_in, u8_in, vgd_t, vgd_f, wgd_t, wgd_f]
        refine ⟨by omega, by kernel_rfl, ?_⟩
        (refine hk6 _ ?_; clear hk6)
        refine awp_region (et := Try.et) Try.vtOK Try.etOK ?_
        simp (maxSteps := 5000000) (disch := first | (intro _; intros; contradiction) | omega) [i64_in, u8_in, vgd_t, vgd_f, wgd_t, wgd_f]
        refine hk _ ⟨[(58, tI .i64 (j + 1 : Nat)), (57, tI .i64 regs.length), (13, .c (.ptr 208 0)), (9, .c (.mp 336)), (10, .c (.mp 352)), (5, .c (.ptr 80 0)), (7, .c (.ptr 112 0)), (8, .c (.ptr 128 0))], [(3001, .row false 3 1 (j + 1) fun q => [.s (.int .i64 (pget 0 W [1, (q : Int)]))]), (208, .box false [.d (.s (.bool false)), .row 3001 (j + 1), .d (.s (.slice none 0 0)), .d (.s (.slice none 0 0)), .d (.s (.slice none 0 0))]), (336, .map 2 true (mB (S))), (352, .map 2 true (mI (W))), (80, .box false [.d (dL regs), .d (dLL mems)]), (112, .box false [.d (.s (.int .i64 e0)), .d (.s (.int .i64 e1))]), (128, .box false [.d (.s (.bool false)), .d (.s (.slice none 0 0)), .d (.s (.slice none 0 0)), .d (.s (.slice none 0 0)), .d (.s (.slice none 0 0))])]⟩ _ (by omega) ⟨j + 1, rfl, by omega, rfl⟩ (weak_mk (by simp) (by simp; exact appN _ _ _ rfl) (by simp))
      · refine awp_exit ?_
        simp at hc ⊢
        have : j = regs.length := by omega
        subst this
        (refine hk2 _ ?_; clear hk2)
        clear hc hj hk
        refine awp_seq' fun k4 hk4 => ?_
        refine awp_seq' fun k5 hk5 => awp_region (et := Try.et) Try.vtOK Try.etOK ?_
        simp (maxSteps := 5000000) (disch := first | (intro _; intros; contradiction) | omega) [i64_in, u8_in, vgd_t, vgd_f, wgd_t, wgd_f]
        (refine hk5 _ ?_; clear hk5)
        refine awp_block (awp_for (fun q s => ∃ j : Nat, q = mems.length - j ∧ j ≤ mems.length ∧ s = ⟨[(76, tI .i64 j), (75, tI .i64 mems.length), (74, .c (.d (dLL mems))), (13, .c (.ptr 208 0)), (9, .c (.mp 336)), (10, .c (.mp 352)), (5, .c (.ptr 80 0)), (7, .c (.ptr 112 0)), (8, .c (.ptr 128 0))], [(3002, .row false 27 1 j fun q => [dL (memO S W mems q)]), (3001, .row false 3 1 regs.length fun q => [.s (.int .i64 (pget 0 W [1, (q : Int)]))]), (208, .box false [.d (.s (.bool false)), .row 3001 regs.length, .row 3002 j, .d (.s (.slice none 0 0)), .d (.s (.slice none 0 0))]), (336, .map 2 true (mB (S))), (352, .map 2 true (mI (W))), (80, .box false [.d (dL regs), .d (dLL mems)]), (112, .box false [.d (.s (.int .i64 e0)), .d (.s (.int .i64 e1))]), (128, .box false [.d (.s (.bool false)), .d (.s (.slice none 0 0)), .d (.s (.slice none 0 0)), .d (.s (.slice none 0 0)), .d (.s (.slice none 0 0))])]⟩) mems.length
          ((weak_nilB (cs := [.d (.s (.bool false)), .row 3001 regs.length, .d (.s (.slice none 0 0)), .d (.s (.slice none 0 0)), .d (.s (.slice none 0 0))]) (b := 208) (i := 2) (n := 3002) (ty := 27) (sz := 1) (fun q => [dL (memO S W mems q)]) (by simp) (by simp) (by simp)).trans (weak_mk (by simp) (by simp) (by simp))) ⟨0, by simp, by simp, rfl⟩ ?_)
        · rintro q s ⟨j, rfl, hj, rfl⟩ k hk
          refine awp_seq' fun k6 hk6 => awp_region (et := Try.et) Try.vtOK Try.etOK ?_
          simp (maxSteps := 5000000) (disch := first | (intro _; intros; contradiction) | omega) [i64_in, u8_in, vgd_t, vgd_f, wgd_t, wgd_f]
          (refine hk6 _ ?_; clear hk6)
          refine awp_seq' fun k7 hk7 => ?_
          refine awp_cond rfl rfl (fun hc => ?_) (fun hc => ?_)
          · refine awp_skip ?_
            (refine hk7 _ ?_; clear hk7)
            simp at hc
            refine awp_seq' fun k8 hk8 => ?_
            refine awp_block ?_
            refine awp_seq' fun k9 hk9 => awp_region (et := Try.et) Try.vtOK Try.etOK ?_
            simp (maxSteps := 5000000) (disch := first | (intro _; intros; contradiction) | omega) [i64_in, u8_in, vgd_t, vgd_f, wgd_t, wgd_f]
            refine ⟨hc, ?_⟩
            (refine hk9 _ ?_; clear hk9)
            have hmj := hml _ (List.getElem_mem hc)
            have hmo : memO S W mems j = memB S W j mems[j] := by simp [memO, hc]
            generalize mems[j] = m at hmj hmo
            have h8 : ∀ s : St, Weak s ⟨[(76, tI .i64 j), (75, tI .i64 mems.length), (74, .c (.d (dLL mems))), (13, .c (.ptr 208 0)), (9, .c (.mp 336)), (10, .c (.mp 352)), (5, .c (.ptr 80 0)), (7, .c (.ptr 112 0)), (8, .c (.ptr 128 0))], [(3002, .row false 27 1 (j + 1) fun q => [dL (memO S W mems q)]), (3001, .row false 3 1 regs.length fun q => [.s (.int .i64 (pget 0 W [1, (q : Int)]))]), (208, .box false [.d (.s (.bool false)), .row 3001 regs.length, .row 3002 (j + 1), .d (.s (.slice none 0 0)), .d (.s (.slice none 0 0))]), (336, .map 2 true (mB (S))), (352, .map 2 true (mI (W))), (80, .box false [.d (dL regs), .d (dLL mems)]), (112, .box false [.d (.s (.int .i64 e0)), .d (.s (.int .i64 e1))]), (128, .box false [.d (.s (.bool false)), .d (.s (.slice none 0 0)), .d (.s (.slice none 0 0)), .d (.s (.slice none 0 0)), .d (.s (.slice none 0 0))])]⟩ → k8 s := by
              intro s hw
              refine hk8 s (awp_weak hw ?_)
              refine awp_region (et := Try.et) Try.vtOK Try.etOK ?_
              simp (maxSteps := 5000000) (disch := first | (intro _; intros; contradiction) | omega) [i64_in, u8_in, vgd_t, vgd_f, wgd_t, wgd_f]
              refine hk _ ⟨[(76, tI .i64 (j + 1 : Nat)), (75, tI .i64 mems.length), (74, .c (.d (dLL mems))), (13, .c (.ptr 208 0)), (9, .c (.mp 336)), (10, .c (.mp 352)), (5, .c (.ptr 80 0)), (7, .c (.ptr 112 0)), (8, .c (.ptr 128 0))], [(3002, .row false 27 1 (j + 1) fun q => [dL (memO S W mems q)]), (3001, .row false 3 1 regs.length fun q => [.s (.int .i64 (pget 0 W [1, (q : Int)]))]), (208, .box false [.d (.s (.bool false)), .row 3001 regs.length, .row 3002 (j + 1), .d (.s (.slice none 0 0)), .d (.s (.slice none 0 0))]), (336, .map 2 true (mB (S))), (352, .map 2 true (mI (W))), (80, .box false [.d (dL regs), .d (dLL mems)]), (112, .box false [.d (.s (.int .i64 e0)), .d (.s (.int .i64 e1))]), (128, .box false [.d (.s (.bool false)), .d (.s (.slice none 0 0)), .d (.s (.slice none 0 0)), .d (.s (.slice none 0 0)), .d (.s (.slice none 0 0))])]⟩ _ (by omega) ⟨j + 1, rfl, by omega, rfl⟩ (weak_mk (by simp) (by simp) (by simp))
            rcases Nat.eq_zero_or_pos m.length with h0 | h0
            · refine awp_seq' fun k11 hk11 => awp_region (et := Try.et) Try.vtOK Try.etOK ?_
              simp (maxSteps := 5000000) (disch := first | (intro _; intros; contradiction) | omega) [i64_in, u8_in, vgd_t, vgd_f, wgd_t, wgd_f]
              refine vcall_fn rfl (by simp) (LeTs.refl _) (slices_Clone_int_S m (by omega)) ?_
              simp (maxSteps := 5000000) (disch := first | (intro _; intros; contradiction) | omega) [i64_in, u8_in, vgd_t, vgd_f, wgd_t, wgd_f]
              (refine hk11 _ ?_; clear hk11)
              have h00 : m = [] := List.eq_nil_of_length_eq_zero h0
              have hat := oka j
              refine awp_seq' fun k12 hk12 => ?_
              refine awp_seq' fun k13 hk13 => awp_region (et := Try.et) Try.vtOK Try.etOK ?_
              simp (maxSteps := 5000000) (disch := first | (intro _; intros; contradiction) | omega) [i64_in, u8_in, vgd_t, vgd_f, wgd_t, wgd_f]
              (refine hk13 _ ?_; clear hk13)
              refine awp_seq' fun k14 hk14 => awp_region (et := Try.et) Try.vtOK Try.etOK ?_
              simp (maxSteps := 5000000) (disch := first | (intro _; intros; contradiction) | omega) [i64_in, u8_in, vgd_t, vgd_f, wgd_t, wgd_f]
              have hr : memO S W mems j = m := by rw [hmo, memB]; simp [h00]
              have hlm : ((m.length : Nat) : Int) = 0 := by omega
              refine ⟨fun hb => ?_, fun hb => ?_⟩
              · (refine hk14 _ ?_; clear hk14)
                refine awp_cond rfl rfl (fun hc14 => ?_) (fun hc14 => ?_)
                · exfalso
                  simp at hc14
                  omega
                · refine awp_skip ?_
                  (refine hk12 _ ?_; clear hk12)
                  refine awp_region (et := Try.et) Try.vtOK Try.etOK ?_
                  simp (maxSteps := 5000000) (disch := first | (intro _; intros; contradiction) | omega) [i64_in, u8_in, vgd_t, vgd_f, wgd_t, wgd_f]
                  refine ⟨by omega, h8 _ (weak_mk (by simp) (by simp; exact appN _ _ _ (by rw [hr])) (by simp))⟩
              · (refine hk14 _ ?_; clear hk14)
                refine awp_cond rfl rfl (fun hc14 => ?_) (fun hc14 => ?_)
                · simp at hc14
                · refine awp_skip ?_
                  (refine hk12 _ ?_; clear hk12)
                  refine awp_region (et := Try.et) Try.vtOK Try.etOK ?_
                  simp (maxSteps := 5000000) (disch := first | (intro _; intros; contradiction) | omega) [i64_in, u8_in, vgd_t, vgd_f, wgd_t, wgd_f]
                  refine ⟨by omega, h8 _ (weak_mk (by simp) (by simp; exact appN _ _ _ (by rw [hr])) (by simp))⟩
            · refine awp_seq' fun k11 hk11 => awp_region (et := Try.et) Try.vtOK Try.etOK ?_
              simp (maxSteps := 5000000) (disch := first | (intro _; intros; contradiction) | omega) [i64_in, u8_in, vgd_t, vgd_f, wgd_t, wgd_f]
              refine vcall_ob (slices_Clone_int_O m h0 (by omega)) [(80, 256)] rfl (by simp) (by simp) (by simp) ?_
              simp (maxSteps := 5000000) (disch := first | (intro _; intros; contradiction) | omega) [i64_in, u8_in, vgd_t, vgd_f, wgd_t, wgd_f]
              (refine hk11 _ ?_; clear hk11)
              have hat := oka j
              refine awp_seq' fun k12 hk12 => ?_
              refine awp_seq' fun k13 hk13 => awp_region (et := Try.et) Try.vtOK Try.etOK ?_
              simp (maxSteps := 5000000) (disch := first | (intro _; intros; contradiction) | omega) [i64_in, u8_in, vgd_t, vgd_f, wgd_t, wgd_f]
              (refine hk13 _ ?_; clear hk13)
              refine awp_seq' fun k14 hk14 => awp_region (et := Try.et) Try.vtOK Try.etOK ?_
              simp (maxSteps := 5000000) (disch := first | (intro _; intros; contradiction) | omega) [i64_in, u8_in, vgd_t, vgd_f, wgd_t, wgd_f]
              refine ⟨fun hb => ?_, fun hb => ?_⟩
              · (refine hk14 _ ?_; clear hk14)
                refine awp_cond rfl rfl (fun hc14 => ?_) (fun hc14 => ?_)
                · simp at hc14
                  have hr : memO S W mems j = m.set (pget 0 W [9, (j : Int)]).toNat (pget 0 W [10, (j : Int)]) := by rw [hmo, memB]; simp [hb, hc14]
                  refine awp_region (et := Try.et) Try.vtOK Try.etOK ?_
                  simp (maxSteps := 5000000) (disch := first | (intro _; intros; contradiction) | omega) [i64_in, u8_in, vgd_t, vgd_f, wgd_t, wgd_f]
                  refine ⟨⟨hat, hc14⟩, ?_⟩
                  (refine hk12 _ ?_; clear hk12)
                  refine awp_region (et := Try.et) Try.vtOK Try.etOK ?_
                  simp (maxSteps := 5000000) (disch := first | (intro _; intros; contradiction) | omega) [i64_in, u8_in, vgd_t, vgd_f, wgd_t, wgd_f]
                  refine ⟨by omega, h8 _ (weak_mk (by simp) (by simp; exact appM _ _ _ _ (by rw [hr]) (LeD_dL (by simp) fun q hq => by
                    by_cases e : q = (pget 0 W [9, (j : Int)]).toNat
                    · subst e; simp [hq]
                    · have e2 : ¬ (pget 0 W [9, (j : Int)]).toNat = q := fun h => e h.symm
                      simp [e, List.getElem?_set, e2])) (by simp))⟩
                · refine awp_skip ?_
                  simp at hc14
                  have hr : memO S W mems j = m := by rw [hmo, memB]; simp [hb]; omega
                  (refine hk12 _ ?_; clear hk12)
                  refine awp_region (et := Try.et) Try.vtOK Try.etOK ?_
                  simp (maxSteps := 5000000) (disch := first | (intro _; intros; contradiction) | omega) [i64_in, u8_in, vgd_t, vgd_f, wgd_t, wgd_f]
                  refine ⟨by omega, h8 _ (weak_mk (by simp) (by simp; exact appN _ _ _ (by rw [hr]; rfl)) (by simp))⟩
              · (refine hk14 _ ?_; clear hk14)
                refine awp_cond rfl rfl (fun hc14 => ?_) (fun hc14 => ?_)
                · simp at hc14
                · refine awp_skip ?_
                  have hr : memO S W mems j = m := by rw [hmo, memB]; simp [hb]
                  (refine hk12 _ ?_; clear hk12)
                  refine awp_region (et := Try.et) Try.vtOK Try.etOK ?_
                  simp (maxSteps := 5000000) (disch := first | (intro _; intros; contradiction) | omega) [i64_in, u8_in, vgd_t, vgd_f, wgd_t, wgd_f]
                  refine ⟨by omega, h8 _ (weak_mk (by simp) (by simp; exact appN _ _ _ (by rw [hr]; rfl)) (by simp))⟩
          · refine awp_exit ?_
            simp at hc ⊢
            have : j = mems.length := by omega
            subst this
            (refine hk4 _ ?_; clear hk4)
            clear hc hj hk
            refine awp_seq' fun k6 hk6 => ?_
            refine awp_seq' fun k7 hk7 => awp_region (et := Try.et) Try.vtOK Try.etOK ?_
            simp (maxSteps := 5000000) (disch := first | (intro _; intros; contradiction) | omega) [i64_in, u8_in, vgd_t, vgd_f, wgd_t, wgd_f]
            have hmx : (if (0 : Int) > e0 then 0 else e0) = (e0.toNat : Nat) := by split <;> omega
            (refine hk7 _ ?_; clear hk7)
            refine awp_block (awp_for (fun q s => ∃ j : Nat, q = e0.toNat - j ∧ j ≤ e0.toNat ∧ s = ⟨[(116, tI .i64 j), (115, tI .i64 (e0.toNat : Nat)), (13, .c (.ptr 208 0)), (9, .c (.mp 336)), (10, .c (.mp 352)), (5, .c (.ptr 80 0)), (7, .c (.ptr 112 0)), (8, .c (.ptr 128 0))], [(3003, .row false 4 1 j fun q => [.s (.bool (pget false S [5, (q : Int)]))]), (3002, .row false 27 1 mems.length fun q => [dL (memO S W mems q)]), (3001, .row false 3 1 regs.length fun q => [.s (.int .i64 (pget 0 W [1, (q : Int)]))]), (208, .box false [.d (.s (.bool false)), .row 3001 regs.length, .row 3002 mems.length, .row 3003 j, .d (.s (.slice none 0 0))]), (336, .map 2 true (mB (S))), (352, .map 2 true (mI (W))), (80, .box false [.d (dL regs), .d (dLL mems)]), (112, .box false [.d (.s (.int .i64 e0)), .d (.s (.int .i64 e1))]), (128, .box false [.d (.s (.bool false)), .d (.s (.slice none 0 0)), .d (.s (.slice none 0 0)), .d (.s (.slice none 0 0)), .d (.s (.slice none 0 0))])]⟩) e0.toNat
              ((weak_nilB (cs := [.d (.s (.bool false)), .row 3001 regs.length, .row 3002 mems.length, .d (.s (.slice none 0 0)), .d (.s (.slice none 0 0))]) (b := 208) (i := 3) (n := 3003) (ty := 4) (sz := 1) (fun q => [.s (.bool (pget false S [5, (q : Int)]))]) (by simp) (by simp) (by simp)).trans (weak_mk (by simp [← hmx]) (by simp) (by simp))) ⟨0, by simp, by simp, rfl⟩ ?_)
            · rintro q s ⟨j, rfl, hj, rfl⟩ k hk
              refine awp_seq' fun k8 hk8 => awp_region (et := Try.et) Try.vtOK Try.etOK ?_
              simp (maxSteps := 5000000) (disch := first | (intro _; intros; contradiction) | omega) [i64_in, u8_in, vgd_t, vgd_f, wgd_t, wgd_f]
              (refine hk8 _ ?_; clear hk8)
              refine awp_seq' fun k9 hk9 => ?_
              refine awp_cond rfl rfl (fun hc => ?_) (fun hc => ?_)
              · refine awp_skip ?_
                (refine hk9 _ ?_; clear hk9)
                simp at hc
                refine awp_seq' fun k10 hk10 => ?_
                refine awp_block ?_
                refine awp_seq' fun k11 hk11 => awp_region (et := Try.et) Try.vtOK Try.etOK ?_
                simp (maxSteps := 5000000) (disch := first | (intro _; intros; contradiction) | omega) [i64_in, u8_in, vgd_t, vgd_f, wgd_t, wgd_f]
                (refine hk11 _ ?_; clear hk11)
                refine awp_region_draw (et := Try.et) Try.mixed Try.vtOK Try.etOK ?_
                simp (maxSteps := 5000000) (disch := first | (intro _; intros; contradiction) | omega) [i64_in, u8_in, vgd_t, vgd_f, wgd_t, wgd_f]
                refine ⟨by omega, by kernel_rfl, ?_⟩
                (refine hk10 _ ?_; clear hk10)
                refine awp_region (et := Try.et) Try.vtOK Try.etOK ?_
                simp (maxSteps := 5000000) (disch := first | (intro _; intros; contradiction) | omega) [i64_in, u8_in, vgd_t, vgd_f, wgd_t, wgd_f]
                refine hk _ ⟨[(116, tI .i64 (j + 1 : Nat)), (115, tI .i64 (e0.toNat : Nat)), (13, .c (.ptr 208 0)), (9, .c (.mp 336)), (10, .c (.mp 352)), (5, .c (.ptr 80 0)), (7, .c (.ptr 112 0)), (8, .c (.ptr 128 0))], [(3003, .row false 4 1 (j + 1) fun q => [.s (.bool (pget false S [5, (q : Int)]))]), (3002, .row false 27 1 mems.length fun q => [dL (memO S W mems q)]), (3001, .row false 3 1 regs.length fun q => [.s (.int .i64 (pget 0 W [1, (q : Int)]))]), (208, .box false [.d (.s (.bool false)), .row 3001 regs.length, .row 3002 mems.length, .row 3003 (j + 1), .d (.s (.slice none 0 0))]), (336, .map 2 true (mB (S))), (352, .map 2 true (mI (W))), (80, .box false [.d (dL regs), .d (dLL mems)]), (112, .box false [.d (.s (.int .i64 e0)), .d (.s (.int .i64 e1))]), (128, .box false [.d (.s (.bool false)), .d (.s (.slice none 0 0)), .d (.s (.slice none 0 0)), .d (.s (.slice none 0 0)), .d (.s (.slice none 0 0))])]⟩ _ (by omega) ⟨j + 1, rfl, by omega, rfl⟩ (weak_mk (by simp) (by simp; exact appN _ _ _ rfl) (by simp))
              · refine awp_exit ?_
                simp at hc ⊢
                have : j = e0.toNat := by omega
                subst this
                (refine hk6 _ ?_; clear hk6)
                clear hc hj hk
                refine awp_seq' fun k8 hk8 => ?_
                refine awp_seq' fun k9 hk9 => awp_region (et := Try.et) Try.vtOK Try.etOK ?_
                simp (maxSteps := 5000000) (disch := first | (intro _; intros; contradiction) | omega) [i64_in, u8_in, vgd_t, vgd_f, wgd_t, wgd_f]
                have hmx : (if (0 : Int) > e1 then 0 else e1) = (e1.toNat : Nat) := by split <;> omega
                (refine hk9 _ ?_; clear hk9)
                refine awp_block (awp_for (fun q s => ∃ j : Nat, q = e1.toNat - j ∧ j ≤ e1.toNat ∧ s = ⟨[(132, tI .i64 j), (131, tI .i64 (e1.toNat : Nat)), (13, .c (.ptr 208 0)), (9, .c (.mp 336)), (10, .c (.mp 352)), (5, .c (.ptr 80 0)), (7, .c (.ptr 112 0)), (8, .c (.ptr 128 0))], [(3004, .row false 52 2 j fun q => [.s (.bool (pget false S [6, (q : Int)])), .s (.int .i64 (if pget false S [6, (q : Int)] then pget 0 W [7, (q : Int)] else 0))]), (3003, .row false 4 1 e0.toNat fun q => [.s (.bool (pget false S [5, (q : Int)]))]), (3002, .row false 27 1 mems.length fun q => [dL (memO S W mems q)]), (3001, .row false 3 1 regs.length fun q => [.s (.int .i64 (pget 0 W [1, (q : Int)]))]), (208, .box false [.d (.s (.bool false)), .row 3001 regs.length, .row 3002 mems.length, .row 3003 e0.toNat, .row 3004 j]), (336, .map 2 true (mB (S))), (352, .map 2 true (mI (W))), (80, .box false [.d (dL regs), .d (dLL mems)]), (112, .box false [.d (.s (.int .i64 e0)), .d (.s (.int .i64 e1))]), (128, .box false [.d (.s (.bool false)), .d (.s (.slice none 0 0)), .d (.s (.slice none 0 0)), .d (.s (.slice none 0 0)), .d (.s (.slice none 0 0))])]⟩) e1.toNat
                  ((weak_nilB (cs := [.d (.s (.bool false)), .row 3001 regs.length, .row 3002 mems.length, .row 3003 e0.toNat, .d (.s (.slice none 0 0))]) (b := 208) (i := 4) (n := 3004) (ty := 52) (sz := 2) (fun q => [.s (.bool (pget false S [6, (q : Int)])), .s (.int .i64 (if pget false S [6, (q : Int)] then pget 0 W [7, (q : Int)] else 0))]) (by simp) (by simp) (by simp)).trans (weak_mk (by simp [← hmx]) (by simp) (by simp))) ⟨0, by simp, by simp, rfl⟩ ?_)
                · rintro q s ⟨j, rfl, hj, rfl⟩ k hk
                  refine awp_seq' fun k10 hk10 => awp_region (et := Try.et) Try.vtOK Try.etOK ?_
                  simp (maxSteps := 5000000) (disch := first | (intro _; intros; contradiction) | omega) [i64_in, u8_in, vgd_t, vgd_f, wgd_t, wgd_f]
                  (refine hk10 _ ?_; clear hk10)
                  refine awp_seq' fun k11 hk11 => ?_
                  refine awp_cond rfl rfl (fun hc => ?_) (fun hc => ?_)
                  · refine awp_skip ?_
                    (refine hk11 _ ?_; clear hk11)
                    simp at hc
                    refine awp_seq' fun k12 hk12 => ?_
                    refine awp_block ?_
                    refine awp_seq' fun k13 hk13 => awp_region (et := Try.et) Try.vtOK Try.etOK ?_
                    simp (maxSteps := 5000000) (disch := first | (intro _; intros; contradiction) | omega) [i64_in, u8_in, vgd_t, vgd_f, wgd_t, wgd_f]
                    (refine hk13 _ ?_; clear hk13)
                    refine awp_seq' fun k14 hk14 => awp_region (et := Try.et) Try.vtOK Try.etOK ?_
                    simp (maxSteps := 5000000) (disch := first | (intro _; intros; contradiction) | omega) [i64_in, u8_in, vgd_t, vgd_f, wgd_t, wgd_f]
                    (refine hk14 _ ?_; clear hk14)
                    refine awp_seq' fun k15 hk15 => ?_
                    refine awp_seq' fun k16 hk16 => awp_region (et := Try.et) Try.vtOK Try.etOK ?_
                    simp (maxSteps := 5000000) (disch := first | (intro _; intros; contradiction) | omega) [i64_in, u8_in, vgd_t, vgd_f, wgd_t, wgd_f]
                    (refine hk16 _ ?_; clear hk16)
                    refine awp_cond rfl rfl (fun hc16 => ?_) (fun hc16 => ?_)
                    · skip
                      refine awp_region (et := Try.et) Try.vtOK Try.etOK ?_
                      simp (maxSteps := 5000000) (disch := first | (intro _; intros; contradiction) | omega) [i64_in, u8_in, vgd_t, vgd_f, wgd_t, wgd_f]
                      (refine hk15 _ ?_; clear hk15)
                      refine awp_region (et := Try.et) Try.vtOK Try.etOK ?_
                      simp (maxSteps := 5000000) (disch := first | (intro _; intros; contradiction) | omega) [i64_in, u8_in, vgd_t, vgd_f, wgd_t, wgd_f]
                      refine ⟨by omega, ?_⟩
                      (refine hk12 _ ?_; clear hk12)
                      refine awp_region (et := Try.et) Try.vtOK Try.etOK ?_
                      simp (maxSteps := 5000000) (disch := first | (intro _; intros; contradiction) | omega) [i64_in, u8_in, vgd_t, vgd_f, wgd_t, wgd_f]
                      refine hk _ ⟨[(132, tI .i64 (j + 1 : Nat)), (131, tI .i64 (e1.toNat : Nat)), (13, .c (.ptr 208 0)), (9, .c (.mp 336)), (10, .c (.mp 352)), (5, .c (.ptr 80 0)), (7, .c (.ptr 112 0)), (8, .c (.ptr 128 0))], [(3004, .row false 52 2 (j + 1) fun q => [.s (.bool (pget false S [6, (q : Int)])), .s (.int .i64 (if pget false S [6, (q : Int)] then pget 0 W [7, (q : Int)] else 0))]), (3003, .row false 4 1 e0.toNat fun q => [.s (.bool (pget false S [5, (q : Int)]))]), (3002, .row false 27 1 mems.length fun q => [dL (memO S W mems q)]), (3001, .row false 3 1 regs.length fun q => [.s (.int .i64 (pget 0 W [1, (q : Int)]))]), (208, .box false [.d (.s (.bool false)), .row 3001 regs.length, .row 3002 mems.length, .row 3003 e0.toNat, .row 3004 (j + 1)]), (336, .map 2 true (mB (S))), (352, .map 2 true (mI (W))), (80, .box false [.d (dL regs), .d (dLL mems)]), (112, .box false [.d (.s (.int .i64 e0)), .d (.s (.int .i64 e1))]), (128, .box false [.d (.s (.bool false)), .d (.s (.slice none 0 0)), .d (.s (.slice none 0 0)), .d (.s (.slice none 0 0)), .d (.s (.slice none 0 0))])]⟩ _ (by omega) ⟨j + 1, rfl, by omega, rfl⟩ (weak_mk (by simp) (by simp; exact appN _ _ _ (by simp [hc16])) (by simp))
                    · skip
                      refine awp_skip ?_
                      (refine hk15 _ ?_; clear hk15)
                      refine awp_region (et := Try.et) Try.vtOK Try.etOK ?_
                      simp (maxSteps := 5000000) (disch := first | (intro _; intros; contradiction) | omega) [i64_in, u8_in, vgd_t, vgd_f, wgd_t, wgd_f]
                      refine ⟨by omega, ?_⟩
                      (refine hk12 _ ?_; clear hk12)
                      refine awp_region (et := Try.et) Try.vtOK Try.etOK ?_
                      simp (maxSteps := 5000000) (disch := first | (intro _; intros; contradiction) | omega) [i64_in, u8_in, vgd_t, vgd_f, wgd_t, wgd_f]
                      refine hk _ ⟨[(132, tI .i64 (j + 1 : Nat)), (131, tI .i64 (e1.toNat : Nat)), (13, .c (.ptr 208 0)), (9, .c (.mp 336)), (10, .c (.mp 352)), (5, .c (.ptr 80 0)), (7, .c (.ptr 112 0)), (8, .c (.ptr 128 0))], [(3004, .row false 52 2 (j + 1) fun q => [.s (.bool (pget false S [6, (q : Int)])), .s (.int .i64 (if pget false S [6, (q : Int)] then pget 0 W [7, (q : Int)] else 0))]), (3003, .row false 4 1 e0.toNat fun q => [.s (.bool (pget false S [5, (q : Int)]))]), (3002, .row false 27 1 mems.length fun q => [dL (memO S W mems q)]), (3001, .row false 3 1 regs.length fun q => [.s (.int .i64 (pget 0 W [1, (q : Int)]))]), (208, .box false [.d (.s (.bool false)), .row 3001 regs.length, .row 3002 mems.length, .row 3003 e0.toNat, .row 3004 (j + 1)]), (336, .map 2 true (mB (S))), (352, .map 2 true (mI (W))), (80, .box false [.d (dL regs), .d (dLL mems)]), (112, .box false [.d (.s (.int .i64 e0)), .d (.s (.int .i64 e1))]), (128, .box false [.d (.s (.bool false)), .d (.s (.slice none 0 0)), .d (.s (.slice none 0 0)), .d (.s (.slice none 0 0)), .d (.s (.slice none 0 0))])]⟩ _ (by omega) ⟨j + 1, rfl, by omega, rfl⟩ (weak_mk (by simp) (by simp; exact appN _ _ _ (by simp [hc16])) (by simp))
                  · refine awp_exit ?_
                    simp at hc ⊢
                    have : j = e1.toNat := by omega
                    subst this
                    (refine hk8 _ ?_; clear hk8)
                    refine awp_seq' fun k12 hk12 => awp_region (et := Try.et) Try.vtOK Try.etOK ?_
                    simp (maxSteps := 5000000) (disch := first | (intro _; intros; contradiction) | omega) [i64_in, u8_in, vgd_t, vgd_f, wgd_t, wgd_f]
                    (refine hk12 _ ?_; clear hk12)
                    refine awp_ret ⟨.inr rfl, ?_⟩
                    simp [dL, dLL, dB, dH]
                    refine ⟨LeD.ext fun q hq => by simp [hq], LeD.ext fun q hq => by simp [hq, dL], LeD.ext fun q hq => by simp [hq], LeD.ext fun q hq => by simp [hq]⟩
end Go.Proofs

namespace Go.Proofs
open Go.V IntWalk
set_option maxRecDepth 100000
set_option linter.unusedSimpArgs false
set_option linter.unusedVariables false

theorem ref13_Bools_S (xs ys : List Bool) (hx : xs.length < 1000000) (hy : ys.length < 1000000) : FSpec Try.prog 48 [.c (.d (dB xs)), .c (.d (dB ys))] [] (tB (xs == ys)) [] := by
  refine fspec_intro Try.func48 (by kernel_rfl) rfl Try.vtOK rfl Try.ntmps48 (by simp) ?_
  refine awp_seq' fun k hk => awp_region (et := Try.et) Try.vtOK Try.etOK ?_
  simp (maxSteps := 5000000) (disch := first | (intro _; intros; contradiction) | omega) [i64_in, u8_in, vgd_t, vgd_f, wgd_t, wgd_f]
  (first | (refine hk _ ?_; clear hk; (try clear k)) | (clear hk; (try clear k); refine hk _ ?_; clear hk; (try clear k)) | (clear hk; (try clear k); clear hk; (try clear k); refine hk _ ?_; clear hk; (try clear k)) | (clear hk; (try clear k); clear hk; (try clear k); clear hk; (try clear k); refine hk _ ?_; clear hk; (try clear k)))
  refine awp_seq' fun k1 hk1 => ?_
  refine awp_seq' fun k hk => awp_region (et := Try.et) Try.vtOK Try.etOK ?_
  simp (maxSteps := 5000000) (disch := first | (intro _; intros; contradiction) | omega) [i64_in, u8_in, vgd_t, vgd_f, wgd_t, wgd_f]
  (first | (refine hk _ ?_; clear hk; (try clear k)) | (clear hk; (try clear k); refine hk _ ?_; clear hk; (try clear k)) | (clear hk; (try clear k); clear hk; (try clear k); refine hk _ ?_; clear hk; (try clear k)) | (clear hk; (try clear k); clear hk; (try clear k); clear hk; (try clear k); refine hk _ ?_; clear hk; (try clear k)))
  refine awp_cond rfl rfl (fun hc => ?_) (fun hc => ?_)
  · refine awp_seq' fun k hk => awp_region (et := Try.et) Try.vtOK Try.etOK ?_
    simp (maxSteps := 5000000) (disch := first | (intro _; intros; contradiction) | omega) [i64_in, u8_in, vgd_t, vgd_f, wgd_t, wgd_f]
    (first | (refine hk _ ?_; clear hk; (try clear k)) | (clear hk; (try clear k); refine hk _ ?_; clear hk; (try clear k)) | (clear hk; (try clear k); clear hk; (try clear k); refine hk _ ?_; clear hk; (try clear k)) | (clear hk; (try clear k); clear hk; (try clear k); clear hk; (try clear k); refine hk _ ?_; clear hk; (try clear k)))
    refine awp_ret ⟨.inr rfl, ?_⟩
    have : xs ≠ ys := fun e => by subst e; simp at hc
    simp [this]
  · refine awp_skip ?_
    (refine hk1 _ ?_; clear hk1)
    have hl : xs.length = ys.length := by simp at hc; omega
    refine awp_seq' fun k0 hk0 => ?_
    refine awp_seq' fun k1 hk1 => awp_region (et := Try.et) Try.vtOK Try.etOK ?_
    simp (maxSteps := 5000000) (disch := first | (intro _; intros; contradiction) | omega) [i64_in, u8_in, vgd_t, vgd_f, wgd_t, wgd_f]
    (refine hk1 _ ?_; clear hk1)
    refine awp_block (awp_for (fun n s => ∃ i : Nat, n = xs.length - i ∧ i ≤ xs.length ∧ (∀ j < i, xs[j]? = ys[j]?) ∧ s = ⟨[(5, tI .i64 i), (0, .c (.d (dB xs))), (1, .c (.d (dB ys)))], []⟩) xs.length (weak_mk (by simp) (by simp) (by simp)) ⟨0, by simp, by simp, by simp, rfl⟩ ?_)
    rintro n s ⟨i, rfl, hi, hxy, rfl⟩ k hk
    refine awp_seq' fun k1 hk1 => ?_
    refine awp_seq' fun k2 hk2 => awp_region (et := Try.et) Try.vtOK Try.etOK ?_
    simp (maxSteps := 5000000) (disch := first | (intro _; intros; contradiction) | omega) [i64_in, u8_in, vgd_t, vgd_f, wgd_t, wgd_f]
    (refine hk2 _ ?_; clear hk2)
    refine awp_cond rfl rfl (fun hc => ?_) (fun hc => ?_)
    · refine awp_skip ?_
      (refine hk1 _ ?_; clear hk1)
      simp at hc
      refine awp_seq' fun k2 hk2 => ?_
      refine awp_block ?_
      refine awp_seq' fun k3 hk3 => awp_region_draw (et := Try.et) Try.mixed Try.vtOK Try.etOK ?_
      simp (maxSteps := 5000000) (disch := first | (intro _; intros; contradiction) | omega) [i64_in, u8_in, vgd_t, vgd_f, wgd_t, wgd_f]
      refine ⟨hc, by omega, by kernel_rfl, ?_⟩
      (refine hk3 _ ?_; clear hk3)
      refine awp_cond rfl rfl (fun hc3 => ?_) (fun hc3 => ?_)
      · refine awp_seq' fun k4 hk4 => awp_region (et := Try.et) Try.vtOK Try.etOK ?_
        simp (maxSteps := 5000000) (disch := first | (intro _; intros; contradiction) | omega) [i64_in, u8_in, vgd_t, vgd_f, wgd_t, wgd_f]
        (refine hk4 _ ?_; clear hk4)
        refine awp_ret ⟨.inr rfl, ?_⟩
        have : xs ≠ ys := fun e => by subst e; simp at hc3
        simp [this]
      · refine awp_skip ?_
        (refine hk2 _ ?_; clear hk2)
        refine awp_region (et := Try.et) Try.vtOK Try.etOK ?_
        simp (maxSteps := 5000000) (disch := first | (intro _; intros; contradiction) | omega) [i64_in, u8_in, vgd_t, vgd_f, wgd_t, wgd_f]
        refine hk _ ⟨[(5, tI .i64 (i + 1 : Nat)), (0, .c (.d (dB xs))), (1, .c (.d (dB ys)))], []⟩ _ (by omega) ⟨i + 1, rfl, by omega, fun j hj => ?_, rfl⟩ (weak_mk (by simp) (by simp) (by simp))
        by_cases hji : j < i
        · exact hxy j hji
        · have : j = i := by omega
          subst this
          simp at hc3
          simp [hc, hl ▸ hc, hc3]
    · refine awp_exit ?_
      simp at hc ⊢
      (refine hk0 _ ?_; clear hk0)
      refine awp_seq' fun k4 hk4 => awp_region (et := Try.et) Try.vtOK Try.etOK ?_
      simp (maxSteps := 5000000) (disch := first | (intro _; intros; contradiction) | omega) [i64_in, u8_in, vgd_t, vgd_f, wgd_t, wgd_f]
      (refine hk4 _ ?_; clear hk4)
      refine awp_ret ⟨.inr rfl, ?_⟩
      have : xs = ys := by
        apply List.ext_getElem?
        intro j
        by_cases hj : j < i
        · exact hxy j hj
        · rw [List.getElem?_eq_none (by omega), List.getElem?_eq_none (by omega)]
      simp [this]
theorem ref12_Ints_S (xs ys : List Int) (hx : xs.length < 1000000) (hy : ys.length < 1000000) : FSpec Try.prog 49 [.c (.d (dL xs)), .c (.d (dL ys))] [] (tB (xs == ys)) [] := by
  refine fspec_intro Try.func49 (by kernel_rfl) rfl Try.vtOK rfl Try.ntmps49 (by simp) ?_
  refine awp_seq' fun k hk => awp_region (et := Try.et) Try.vtOK Try.etOK ?_
  simp (maxSteps := 5000000) (disch := first | (intro _; intros; contradiction) | omega) [i64_in, u8_in, vgd_t, vgd_f, wgd_t, wgd_f]
  (first | (refine hk _ ?_; clear hk; (try clear k)) | (clear hk; (try clear k); refine hk _ ?_; clear hk; (try clear k)) | (clear hk; (try clear k); clear hk; (try clear k); refine hk _ ?_; clear hk; (try clear k)) | (clear hk; (try clear k); clear hk; (try clear k); clear hk; (try clear k); refine hk _ ?_; clear hk; (try clear k)))
  refine awp_seq' fun k1 hk1 => ?_
  refine awp_seq' fun k hk => awp_region (et := Try.et) Try.vtOK Try.etOK ?_
  simp (maxSteps := 5000000) (disch := first | (intro _; intros; contradiction) | omega) [i64_in, u8_in, vgd_t, vgd_f, wgd_t, wgd_f]
  (first | (refine hk _ ?_; clear hk; (try clear k)) | (clear hk; (try clear k); refine hk _ ?_; clear hk; (try clear k)) | (clear hk; (try clear k); clear hk; (try clear k); refine hk _ ?_; clear hk; (try clear k)) | (clear hk; (try clear k); clear hk; (try clear k); clear hk; (try clear k); refine hk _ ?_; clear hk; (try clear k)))
  refine awp_cond rfl rfl (fun hc => ?_) (fun hc => ?_)
  · refine awp_seq' fun k hk => awp_region (et := Try.et) Try.vtOK Try.etOK ?_
    simp (maxSteps := 5000000) (disch := first | (intro _; intros; contradiction) | omega) [i64_in, u8_in, vgd_t, vgd_f, wgd_t, wgd_f]
    (first | (refine hk _ ?_; clear hk; (try clear k)) | (clear hk; (try clear k); refine hk _ ?_; clear hk; (try clear k)) | (clear hk; (try clear k); clear hk; (try clear k); refine hk _ ?_; clear hk; (try clear k)) | (clear hk; (try clear k); clear hk; (try clear k); clear hk; (try clear k); refine hk _ ?_; clear hk; (try clear k)))
    refine awp_ret ⟨.inr rfl, ?_⟩
    have : xs ≠ ys := fun e => by subst e; simp at hc
    simp [this]
  · refine awp_skip ?_
    (refine hk1 _ ?_; clear hk1)
    have hl : xs.length = ys.length := by simp at hc; omega
    refine awp_seq' fun k0 hk0 => ?_
    refine awp_seq' fun k1 hk1 => awp_region (et := Try.et) Try.vtOK Try.etOK ?_
    simp (maxSteps := 5000000) (disch := first | (intro _; intros; contradiction) | omega) [i64_in, u8_in, vgd_t, vgd_f, wgd_t, wgd_f]
    (refine hk1 _ ?_; clear hk1)
    refine awp_block (awp_for (fun n s => ∃ i : Nat, n = xs.length - i ∧ i ≤ xs.length ∧ (∀ j < i, xs[j]? = ys[j]?) ∧ s = ⟨[(5, tI .i64 i), (0, .c (.d (dL xs))), (1, .c (.d (dL ys)))], []⟩) xs.length (weak_mk (by simp) (by simp) (by simp)) ⟨0, by simp, by simp, by simp, rfl⟩ ?_)
    rintro n s ⟨i, rfl, hi, hxy, rfl⟩ k hk
    refine awp_seq' fun k1 hk1 => ?_
    refine awp_seq' fun k2 hk2 => awp_region (et := Try.et) Try.vtOK Try.etOK ?_
    simp (maxSteps := 5000000) (disch := first | (intro _; intros; contradiction) | omega) [i64_in, u8_in, vgd_t, vgd_f, wgd_t, wgd_f]
    (refine hk2 _ ?_; clear hk2)
    refine awp_cond rfl rfl (fun hc => ?_) (fun hc => ?_)
    · refine awp_skip ?_
      (refine hk1 _ ?_; clear hk1)
      simp at hc
      refine awp_seq' fun k2 hk2 => ?_
      refine awp_block ?_
      refine awp_seq' fun k3 hk3 => awp_region_draw (et := Try.et) Try.mixed Try.vtOK Try.etOK ?_
      simp (maxSteps := 5000000) (disch := first | (intro _; intros; contradiction) | omega) [i64_in, u8_in, vgd_t, vgd_f, wgd_t, wgd_f]
      refine ⟨hc, by omega, by kernel_rfl, ?_⟩
      (refine hk3 _ ?_; clear hk3)
      refine awp_cond rfl rfl (fun hc3 => ?_) (fun hc3 => ?_)
      · refine awp_seq' fun k4 hk4 => awp_region (et := Try.et) Try.vtOK Try.etOK ?_
        simp (maxSteps := 5000000) (disch := first | (intro _; intros; contradiction) | omega) [i64_in, u8_in, vgd_t, vgd_f, wgd_t, wgd_f]
        (refine hk4 _ ?_; clear hk4)
        refine awp_ret ⟨.inr rfl, ?_⟩
        have : xs ≠ ys := fun e => by subst e; simp at hc3
        simp [this]
      · refine awp_skip ?_
        (refine hk2 _ ?_; clear hk2)
        refine awp_region (et := Try.et) Try.vtOK Try.etOK ?_
        simp (maxSteps := 5000000) (disch := first | (intro _; intros; contradiction) | omega) [i64_in, u8_in, vgd_t, vgd_f, wgd_t, wgd_f]
        refine hk _ ⟨[(5, tI .i64 (i + 1 : Nat)), (0, .c (.d (dL xs))), (1, .c (.d (dL ys)))], []⟩ _ (by omega) ⟨i + 1, rfl, by omega, fun j hj => ?_, rfl⟩ (weak_mk (by simp) (by simp) (by simp))
        by_cases hji : j < i
        · exact hxy j hji
        · have : j = i := by omega
          subst this
          simp at hc3
          simp [hc, hl ▸ hc, hc3]
    · refine awp_exit ?_
      simp at hc ⊢
      (refine hk0 _ ?_; clear hk0)
      refine awp_seq' fun k4 hk4 => awp_region (et := Try.et) Try.vtOK Try.etOK ?_
      simp (maxSteps := 5000000) (disch := first | (intro _; intros; contradiction) | omega) [i64_in, u8_in, vgd_t, vgd_f, wgd_t, wgd_f]
      (refine hk4 _ ?_; clear hk4)
      refine awp_ret ⟨.inr rfl, ?_⟩
      have : xs = ys := by
        apply List.ext_getElem?
        intro j
        by_cases hj : j < i
        · exact hxy j hj
        · rw [List.getElem?_eq_none (by omega), List.getElem?_eq_none (by omega)]
      simp [this]
end Go.Proofs

/- NQ3: the nets that bytes describe, in plain Lean. -/
namespace Go.Proofs
open Go.V
/-- A gate's bytes. -/
structure G5 where
  o : Int
  a : Int
  b : Int
  c : Int
  n : Int
instance : Inhabited G5 := ⟨⟨0, 0, 0, 0, 0⟩⟩
/-- An output's bytes. -/
structure O4 where
  k : Int
  i : Int
  b : Int
  d : Int
instance : Inhabited O4 := ⟨⟨0, 0, 0, 0⟩⟩
@[simp] def G5.c_ (g : G5) : List D := [.s (.int .u8 g.o), .s (.int .u8 g.a), .s (.int .u8 g.b), .s (.int .u8 g.c), .s (.int .u8 g.n)]
@[simp] def O4.c_ (g : O4) : List D := [.s (.int .u8 g.k), .s (.int .u8 g.i), .s (.int .u8 g.b), .s (.int .u8 g.d)]
def dG5 (xs : List G5) : D := .l xs.length fun j => (xs[j]?.getD default).c_
def dO4 (xs : List O4) : D := .l xs.length fun j => (xs[j]?.getD default).c_
@[simp high] theorem evLen_dG5 (tab : Tab) (st : St) (t : Nat) (xs : List G5) : evLen tab st t (.c (.d (dG5 xs))) = evLen tab st t (.c (.d (.l xs.length fun j => (xs[j]?.getD default).c_))) := rfl
@[simp high] theorem evIndexAddr_dG5 (tab : Tab) (st : St) (t : Nat) (xs : List G5) (y : T) : evIndexAddr tab st t (.c (.d (dG5 xs))) y = evIndexAddr tab st t (.c (.d (.l xs.length fun j => (xs[j]?.getD default).c_))) y := rfl
@[simp ↓ high] theorem noLC_dG5 (xs : List G5) : noLC (.d (dG5 xs)) = false := rfl
@[simp high] theorem evLen_dO4 (tab : Tab) (st : St) (t : Nat) (xs : List O4) : evLen tab st t (.c (.d (dO4 xs))) = evLen tab st t (.c (.d (.l xs.length fun j => (xs[j]?.getD default).c_))) := rfl
@[simp high] theorem evIndexAddr_dO4 (tab : Tab) (st : St) (t : Nat) (xs : List O4) (y : T) : evIndexAddr tab st t (.c (.d (dO4 xs))) y = evIndexAddr tab st t (.c (.d (.l xs.length fun j => (xs[j]?.getD default).c_))) y := rfl
@[simp ↓ high] theorem noLC_dO4 (xs : List O4) : noLC (.d (dO4 xs)) = false := rfl
structure R22 where
  ins : List Int
  gates : List G5
  outs : List O4
@[simp] def R22.c_ (x : R22) : List C := [.d (dU x.ins), .d (dG5 x.gates), .d (dO4 x.outs)]
def u8 (b : Int) : Prop := 0 ≤ b ∧ b < 256
structure R22.ok (x : R22) : Prop where
  ins : ∀ b ∈ x.ins, u8 b
  gates : ∀ g ∈ x.gates, u8 g.o ∧ u8 g.a ∧ u8 g.b ∧ u8 g.c ∧ u8 g.n
  outs : ∀ g ∈ x.outs, u8 g.k ∧ u8 g.i ∧ u8 g.b ∧ u8 g.d

def mkW (b : Int) : Wi := ⟨1 + b % 4, b / 4 % 3, if 1 + b % 4 = 1 ∨ 1 + b % 4 = 2 then b / 12 % 3 else 0⟩
def mkG (own : Int) (g : G5) : Ga :=
  ⟨1 + g.o % 7, g.a % own, if 1 + g.o % 7 = 1 then 0 else g.b % own, if 5 ≤ 1 + g.o % 7 then g.c % own else 0, if 1 + g.o % 7 = 7 then 8 * (g.n % 3) + g.n / 3 % 2 else 0⟩
def kindO (k : Int) : Int := [1, 5, 6, 7, 8, 9, 10][(k % 7).toNat]?.getD 0
def mkO (g : O4) : Wi := ⟨kindO g.k, g.i % 3, g.b % 3⟩
def mkI (x : R22) : List Wi := ⟨1, 0, 0⟩ :: (x.ins.take 8).map mkW
def mkGs (nin : Nat) (l : List G5) : Nat → List Ga
  | 0 => []
  | i + 1 => mkGs nin l i ++ [mkG (2 + nin + i) (l[i]?.getD default)]
/-- A row of elements, each written out. -/
def rF {α : Type} [Inhabited α] (c : α → List D) (xs : List α) : Nat → List D := fun j => c (xs[j]?.getD default)
@[simp] theorem rF_at {α : Type} [Inhabited α] (c : α → List D) (xs : List α) (j : Nat) : rF c xs j = c (xs[j]?.getD default) := rfl
theorem app_rF {α : Type} [Inhabited α] {c : α → List D} (n : Nat) (xs : List α) (y : α) (hn : n = xs.length) : LeF (n + 1) (appF n (rF c xs) (fun j => [c y][j]?.getD [])) (rF c (xs ++ [y])) := by
  subst hn
  exact LeD.ext fun j hj => by
    unfold appF
    split
    · rename_i h; simp only [rF, List.getElem?_append_left h]
    · have : j = xs.length := by omega
      subst this
      simp
theorem app_rF' {α : Type} [Inhabited α] {c : α → List D} {n : Nat} {xs zs : List α} {cs : List D} (y : α) (hn : n = xs.length) (hz : zs = xs ++ [y]) (hc : c y = cs) : LeF (n + 1) (appF n (rF c xs) (fun j => [cs][j]?.getD [])) (rF c zs) := by
  subst hz hc
  exact app_rF n xs y hn
@[simp] theorem LeF0 (f g : Nat → List D) : LeF 0 f g := LeD.ext fun j hj => by omega
theorem take_snoc {α : Type} [Inhabited α] (l : List α) (i : Nat) (h : i < l.length) : l.take (i + 1) = l.take i ++ [l[i]?.getD default] := by
  rw [List.take_add_one, List.getElem?_eq_getElem h]
  rfl
def mkD (n : Int) (g : O4) : Int := (1 + n - g.d) % 1024 % (2 + n)

def madeN (x : R22) : Nt :=
  let ins := mkI x
  let gs := mkGs ins.length x.gates (min x.gates.length 60)
  if x.outs = [] then ⟨ins, gs, [⟨1, 0, 0⟩], [1 + (ins.length : Int) + gs.length]⟩
  else ⟨ins, gs, (x.outs.take 9).map mkO, (x.outs.take 9).map (mkD ((ins.length : Int) + gs.length))⟩

theorem wrap_in {x : Int} (h : -9223372036854775808 ≤ x ∧ x ≤ 9223372036854775807) : IntKind.i64.wrap x = x := IntWalk.i64_in x h
theorem ofInt_toNat {x : Int} (h : 0 ≤ x ∧ x < 9223372036854775808) : (BitVec.ofInt 64 x).toNat = x.toNat := by
  rw [BitVec.toNat_ofInt]
  omega
theorem andV_mask (x : Int) (k : Nat) (hk : k ≤ 62) : andV .i64 x (2 ^ k - 1) = x % 2 ^ k := by
  have hp : (2 : Int) ^ k ≤ 2 ^ 62 := by
    have := Nat.pow_le_pow_right (n := 2) (by decide) hk
    exact_mod_cast this
  have hp0 : (0 : Int) < 2 ^ k := by
    have := Nat.two_pow_pos k
    exact_mod_cast this
  have hm : (BitVec.ofInt 64 ((2 : Int) ^ k - 1)).toNat = 2 ^ k - 1 := by
    rw [ofInt_toNat (by omega)]
    have : ((2 : Int) ^ k).toNat = 2 ^ k := by
      have : ((2 : Int) ^ k) = ((2 ^ k : Nat) : Int) := by simp
      rw [this]; rfl
    omega
  have e : ((BitVec.ofInt 64 x &&& BitVec.ofInt 64 ((2 : Int) ^ k - 1)).toNat : Int) = x % 2 ^ k := by
    rw [BitVec.toNat_and, hm, Nat.and_two_pow_sub_one_eq_mod, BitVec.toNat_ofInt]
    have hd : ((2 ^ k : Nat) : Int) ∣ ((2 ^ 64 : Nat) : Int) := by
      have : (2 ^ k : Nat) ∣ 2 ^ 64 := Nat.pow_dvd_pow 2 (by omega)
      exact_mod_cast this
    have h0 : 0 ≤ x % ((2 ^ 64 : Nat) : Int) := Int.emod_nonneg _ (by decide)
    rw [Int.natCast_emod, Int.toNat_of_nonneg h0]
    rw [Int.emod_emod_of_dvd _ hd]
    simp
  show IntKind.i64.wrap _ = _
  have hb : IntKind.i64.bits = 64 := rfl
  rw [hb, e]
  have h1 := Int.emod_nonneg x (b := 2 ^ k) (by omega)
  have h2 := Int.emod_lt_of_pos x hp0
  exact wrap_in ⟨by omega, by omega⟩
theorem andV_1023 (x : Int) : andV .i64 x 1023 = x % 1024 := andV_mask x 10 (by omega)
theorem andV_255 (x : Int) : andV .i64 x 255 = x % 256 := andV_mask x 8 (by omega)
theorem andV_15 (x : Int) : andV .i64 x 15 = x % 16 := andV_mask x 4 (by omega)
theorem orV_nn {x y : Int} (hx : 0 ≤ x ∧ x < 9223372036854775808) (hy : 0 ≤ y ∧ y < 9223372036854775808) : orV .i64 x y = ((x.toNat ||| y.toNat : Nat) : Int) ∧ 0 ≤ orV .i64 x y ∧ orV .i64 x y < 9223372036854775808 := by
  have hlt : x.toNat ||| y.toNat < 2 ^ 63 := Nat.or_lt_two_pow (by omega) (by omega)
  have e : orV .i64 x y = ((x.toNat ||| y.toNat : Nat) : Int) := by
    show IntKind.i64.wrap _ = _
    have hb : IntKind.i64.bits = 64 := rfl
    rw [hb, BitVec.toNat_or, ofInt_toNat hx, ofInt_toNat hy]
    exact wrap_in (by omega)
  exact ⟨e, by omega, by omega⟩
theorem shlV_one (b : Int) (h : 0 ≤ b ∧ b < 63) : shlV .i64 1 b = 2 ^ b.toNat ∧ 0 ≤ shlV .i64 1 b ∧ shlV .i64 1 b < 9223372036854775808 := by
  have h1 : (2 : Int) ^ b.toNat ≤ 2 ^ 62 := by
    have := Nat.pow_le_pow_right (n := 2) (by decide) (show b.toNat ≤ 62 by omega)
    exact_mod_cast this
  have h0 : (0 : Int) < 2 ^ b.toNat := by
    have := Nat.two_pow_pos b.toNat
    exact_mod_cast this
  have e : shlV .i64 1 b = 2 ^ b.toNat := by
    show IntKind.i64.wrap (1 * 2 ^ (min b.toNat 64)) = _
    rw [Nat.min_eq_left (by omega), Int.one_mul]
    exact wrap_in (by omega)
  exact ⟨e, by omega, by omega⟩
/-- Words are not negative where their bits are few. -/
theorem wordM_nn {outs : List Wi} {vals : List Bool} (h : ∀ i < outs.length, 0 ≤ (outs[i]?.getD default).bit ∧ (outs[i]?.getD default).bit < 63) (x : List Int) : ∀ i ≤ outs.length, 0 ≤ pget 0 (wordM outs vals i) x ∧ pget 0 (wordM outs vals i) x < 9223372036854775808
  | 0, _ => by simp [wordM, pget]
  | i + 1, hi => by
    have ih := fun y => wordM_nn (vals := vals) h y i (by omega)
    have hb := h i (by omega)
    simp only [wordM]
    split
    · rw [pget_pput]
      split
      · exact (orV_nn (ih _) (shlV_one _ hb).2).2
      · exact ih x
    · exact ih x
end Go.Proofs

namespace Go.Proofs
open Go.V IntWalk
set_option maxRecDepth 100000
set_option linter.unusedSimpArgs false
set_option linter.unusedVariables false

/-- The parts of an effect. -/
def Nt.eR (n : Nt) (vals : List Bool) (k : Nat) : List Int := (List.range k).map fun q : Nat => pget 0 (wordM n.outs vals n.outs.length) [1, (q : Int)]
def Nt.eM (n : Nt) (vals : List Bool) (mems : List (List Int)) : List (List Int) := (List.range mems.length).map (memO (setM n.outs vals n.outs.length) (wordM n.outs vals n.outs.length) mems)
def Nt.eP (n : Nt) (vals : List Bool) (k : Nat) : List Bool := (List.range k).map fun q : Nat => pget false (setM n.outs vals n.outs.length) [5, (q : Int)]
def Nt.eU (n : Nt) (vals : List Bool) (k : Nat) : List (Bool × Int) := (List.range k).map fun q : Nat => (pget false (setM n.outs vals n.outs.length) [6, (q : Int)], if pget false (setM n.outs vals n.outs.length) [6, (q : Int)] then pget 0 (wordM n.outs vals n.outs.length) [7, (q : Int)] else 0)
def fiC (regs : List Int) (mems : List (List Int)) (pops : List Bool) (puts : List (Bool × Int)) : List C := [.d (.s (.bool false)), .d (dL regs), .d (dLL mems), .d (dB pops), .d (dH puts)]
/-- The values of the outputs in a step. -/
def Nt.sv (n : Nt) (regs : List Int) (mems : List (List Int)) (heads : List (Bool × Int)) (rooms : List Bool) : List Bool := drB (n.vals (n.ins.map (inV regs heads rooms)) mems) n.drive
/-- Wires that may be stepped. -/
def Nt.okW (n : Nt) : Prop := n.outs.length = n.drive.length ∧ (∀ i < n.ins.length, 0 ≤ (n.ins[i]?.getD default).i ∧ 0 ≤ (n.ins[i]?.getD default).bit) ∧ ∀ i < n.outs.length, 0 ≤ (n.outs[i]?.getD default).bit ∧ (n.outs[i]?.getD default).bit < 63

/-- A row that is written out. -/
theorem lit {n : Nat} {g : Nat → List D} {L : List (List D)} (h : L = (List.range n).map g) : LeD (.l n fun j => L[j]?.getD []) (.l n g) := by
  subst h
  exact LeD.ext fun j hj => by simp [hj]

theorem netsim_Step_S (n : Nt) (regs : List Int) (mems : List (List Int)) (heads : List (Bool × Int)) (rooms : List Bool) (hr : regs.length < 1000000) (hm : mems.length < 1000000) (hml : ∀ m ∈ mems, m.length < 1000000) (hh : heads.length < 1000000) (ho : rooms.length < 1000000) (ok : n.okX n.ins.length) (okw : n.okW) :
    FSpec Try.prog 51 [.agg n.c_, .agg [.d (dL regs), .d (dLL mems)], .c (.d (dH heads)), .c (.d (dB rooms))] [] (.agg (fiC (n.eR (n.sv regs mems heads rooms) regs.length) (n.eM (n.sv regs mems heads rooms) mems) (n.eP (n.sv regs mems heads rooms) heads.length) (n.eU (n.sv regs mems heads rooms) rooms.length))) [] := by
  have ok' := ok
  obtain ⟨hg, hd, hi, hu, hok, hdr⟩ := ok
  obtain ⟨w1, w2, w3⟩ := okw
  refine fspec_intro Try.func51 (by kernel_rfl) rfl Try.vtOK rfl Try.ntmps51 (by simp) ?_
  refine awp_seq' fun k hk => awp_region (et := Try.et) Try.vtOK Try.etOK ?_
  simp (maxSteps := 5000000) (disch := first | (intro _; intros; contradiction) | omega) [i64_in, u8_in, vgd_t, vgd_f, wgd_t, wgd_f]
  (first | (refine hk _ ?_; clear hk; (try clear k)) | (clear hk; (try clear k); refine hk _ ?_; clear hk; (try clear k)) | (clear hk; (try clear k); clear hk; (try clear k); refine hk _ ?_; clear hk; (try clear k)) | (clear hk; (try clear k); clear hk; (try clear k); clear hk; (try clear k); refine hk _ ?_; clear hk; (try clear k)))
  refine awp_seq' fun k hk => awp_region_draw (et := Try.et) Try.mixed Try.vtOK Try.etOK ?_
  simp (maxSteps := 5000000) (disch := first | (intro _; intros; contradiction) | omega) [i64_in, u8_in, vgd_t, vgd_f, wgd_t, wgd_f]
  refine wcall_fn rfl (by simp) (LeTs.refl _) (netsim_Inputs_S n regs mems heads rooms hi w2) ?_
  simp (maxSteps := 5000000) (disch := first | (intro _; intros; contradiction) | omega) [i64_in, u8_in, vgd_t, vgd_f, wgd_t, wgd_f]
  refine wcall_fn rfl (by simp) (LeTs.refl _) (netsim_outputs_S n (n.ins.map (inV regs heads rooms)) mems (by simpa using hi) (by omega) (by simpa using ok')) ?_
  simp (maxSteps := 5000000) (disch := first | (intro _; intros; contradiction) | omega) [i64_in, u8_in, vgd_t, vgd_f, wgd_t, wgd_f]
  refine ⟨by kernel_rfl, ?_⟩
  rw [show drB (n.vals (n.ins.map (inV regs heads rooms)) mems) n.drive = n.sv regs mems heads rooms from rfl]
  have hvl : (n.sv regs mems heads rooms).length = n.outs.length := by simp [Nt.sv, drB, w1]
  generalize n.sv regs mems heads rooms = vals at *
  (first | (refine hk _ ?_; clear hk; (try clear k)) | (clear hk; (try clear k); refine hk _ ?_; clear hk; (try clear k)) | (clear hk; (try clear k); clear hk; (try clear k); refine hk _ ?_; clear hk; (try clear k)) | (clear hk; (try clear k); clear hk; (try clear k); clear hk; (try clear k); refine hk _ ?_; clear hk; (try clear k)))
  refine awp_seq' fun k hk => awp_region (et := Try.et) Try.vtOK Try.etOK ?_
  simp (maxSteps := 5000000) (disch := first | (intro _; intros; contradiction) | omega) [i64_in, u8_in, vgd_t, vgd_f, wgd_t, wgd_f]
  refine vcall_fn rfl (by simp) (LeTs.refl _) (netsim_Effect_S n regs mems vals heads.length rooms.length hu hvl hr hm hml (by omega) (by omega) (fun i hi => (w3 i hi).1) (fun i => (wordM_nn w3 _ _ (Nat.le_refl _)).1)) ?_
  simp (maxSteps := 5000000) (disch := first | (intro _; intros; contradiction) | omega) [i64_in, u8_in, vgd_t, vgd_f, wgd_t, wgd_f]
  (first | (refine hk _ ?_; clear hk; (try clear k)) | (clear hk; (try clear k); refine hk _ ?_; clear hk; (try clear k)) | (clear hk; (try clear k); clear hk; (try clear k); refine hk _ ?_; clear hk; (try clear k)) | (clear hk; (try clear k); clear hk; (try clear k); clear hk; (try clear k); refine hk _ ?_; clear hk; (try clear k)))
  refine awp_ret ⟨.inr rfl, ?_⟩
  simp [fiC, Nt.eR, Nt.eM, Nt.eP, Nt.eU]

theorem law22_step_S (n : Nt) (regs : List Int) (mems : List (List Int)) (heads : List (Bool × Int)) (rooms : List Bool) (hr : regs.length < 1000000) (hm : mems.length < 1000000) (hml : ∀ m ∈ mems, m.length < 1000000) (hh : heads.length < 1000000) (ho : rooms.length < 1000000) (ok : n.okX n.ins.length) (okw : n.okW) :
    FSpec Try.prog 15 [.agg n.c_, .agg [.d (dL regs), .d (dLL mems)], .agg [.d (dH heads), .d (dB rooms)]] [] (.agg (fiC (n.eR (n.sv regs mems heads rooms) regs.length) (n.eM (n.sv regs mems heads rooms) mems) (n.eP (n.sv regs mems heads rooms) heads.length) (n.eU (n.sv regs mems heads rooms) rooms.length))) [] := by
  refine fspec_intro Try.func15 (by kernel_rfl) rfl Try.vtOK rfl Try.ntmps15 (by simp) ?_
  refine awp_seq' fun k hk => awp_region (et := Try.et) Try.vtOK Try.etOK ?_
  simp (maxSteps := 5000000) (disch := first | (intro _; intros; contradiction) | omega) [i64_in, u8_in, vgd_t, vgd_f, wgd_t, wgd_f]
  (first | (refine hk _ ?_; clear hk; (try clear k)) | (clear hk; (try clear k); refine hk _ ?_; clear hk; (try clear k)) | (clear hk; (try clear k); clear hk; (try clear k); refine hk _ ?_; clear hk; (try clear k)) | (clear hk; (try clear k); clear hk; (try clear k); clear hk; (try clear k); refine hk _ ?_; clear hk; (try clear k)))
  refine awp_seq' fun k hk => awp_region (et := Try.et) Try.vtOK Try.etOK ?_
  simp (maxSteps := 5000000) (disch := first | (intro _; intros; contradiction) | omega) [i64_in, u8_in, vgd_t, vgd_f, wgd_t, wgd_f]
  refine vcall_fn rfl (by simp) (LeTs.refl _) (netsim_Step_S n regs mems heads rooms hr hm hml hh ho ok okw) ?_
  simp (maxSteps := 5000000) (disch := first | (intro _; intros; contradiction) | omega) [i64_in, u8_in, vgd_t, vgd_f, wgd_t, wgd_f, fiC]
  (first | (refine hk _ ?_; clear hk; (try clear k)) | (clear hk; (try clear k); refine hk _ ?_; clear hk; (try clear k)) | (clear hk; (try clear k); clear hk; (try clear k); refine hk _ ?_; clear hk; (try clear k)) | (clear hk; (try clear k); clear hk; (try clear k); clear hk; (try clear k); refine hk _ ?_; clear hk; (try clear k)))
  refine awp_ret ⟨.inr rfl, ?_⟩
  simp [fiC]

/-- The net of the example. -/
def smallN : Nt := ⟨[⟨1, 0, 0⟩, ⟨3, 0, 0⟩], [⟨4, 2, 3, 0, 0⟩], [⟨1, 0, 0⟩, ⟨5, 0, 0⟩], [4, 3]⟩
theorem law22_small_S : FSpec Try.prog 46 [] [] (.agg smallN.c_) [] := by
  refine fspec_intro Try.func46 (by kernel_rfl) rfl Try.vtOK rfl Try.ntmps46 (by simp) ?_
  refine awp_seq' fun k hk => awp_region (et := Try.et) Try.vtOK Try.etOK ?_
  simp (maxSteps := 5000000) (disch := first | (intro _; intros; contradiction) | omega) [i64_in, u8_in, vgd_t, vgd_f, wgd_t, wgd_f]
  (first | (refine hk _ ?_; clear hk; (try clear k)) | (clear hk; (try clear k); refine hk _ ?_; clear hk; (try clear k)) | (clear hk; (try clear k); clear hk; (try clear k); refine hk _ ?_; clear hk; (try clear k)) | (clear hk; (try clear k); clear hk; (try clear k); clear hk; (try clear k); refine hk _ ?_; clear hk; (try clear k)))
  refine awp_seq' fun k hk => awp_region (et := Try.et) Try.vtOK Try.etOK ?_
  simp (maxSteps := 5000000) (disch := first | (intro _; intros; contradiction) | omega) [i64_in, u8_in, vgd_t, vgd_f, wgd_t, wgd_f]
  (first | (refine hk _ ?_; clear hk; (try clear k)) | (clear hk; (try clear k); refine hk _ ?_; clear hk; (try clear k)) | (clear hk; (try clear k); clear hk; (try clear k); refine hk _ ?_; clear hk; (try clear k)) | (clear hk; (try clear k); clear hk; (try clear k); clear hk; (try clear k); refine hk _ ?_; clear hk; (try clear k)))
  refine awp_seq' fun k hk => awp_region (et := Try.et) Try.vtOK Try.etOK ?_
  simp (maxSteps := 5000000) (disch := first | (intro _; intros; contradiction) | omega) [i64_in, u8_in, vgd_t, vgd_f, wgd_t, wgd_f]
  (first | (refine hk _ ?_; clear hk; (try clear k)) | (clear hk; (try clear k); refine hk _ ?_; clear hk; (try clear k)) | (clear hk; (try clear k); clear hk; (try clear k); refine hk _ ?_; clear hk; (try clear k)) | (clear hk; (try clear k); clear hk; (try clear k); clear hk; (try clear k); refine hk _ ?_; clear hk; (try clear k)))
  refine awp_ret ⟨.inr rfl, ?_⟩
  simp [smallN]
  exact ⟨lit rfl, lit rfl, lit rfl, lit rfl⟩

theorem smallN_okX : smallN.okX 2 := by
  refine ⟨by decide, by decide, by decide, by decide, fun i hi => ?_, fun i hi => ?_⟩
  · have : i = 0 := by simp [smallN] at hi; omega
    subst this
    simp [smallN, Ga.ok]
  · have : i = 0 ∨ i = 1 := by simp [smallN] at hi; omega
    rcases this with rfl | rfl <;> simp [smallN]
theorem smallN_okW : smallN.okW := by
  refine ⟨rfl, fun i hi => ?_, fun i hi => ?_⟩
  all_goals
    have : i = 0 ∨ i = 1 := by simp [smallN] at hi; omega
    rcases this with rfl | rfl <;> simp [smallN]

theorem netsim_Sensitive_N (n : Nt) (xs : List Bool) (ms : List (List Int)) (kk : Int) (hi : n.ins.length < 1000000) (hkk : kk < 0 ∨ n.ins.length ≤ kk) :
    FSpec Try.prog 50 [.agg n.c_, .c (.d (dB xs)), .c (.d (dLL ms)), tI .i64 kk] [] (.c (.d (dL []))) [] := by
  refine fspec_intro Try.func50 (by kernel_rfl) rfl Try.vtOK rfl Try.ntmps50 (by simp) ?_
  refine awp_seq' fun k hk => awp_region (et := Try.et) Try.vtOK Try.etOK ?_
  simp (maxSteps := 5000000) (disch := first | (intro _; intros; contradiction) | omega) [i64_in, u8_in, vgd_t, vgd_f, wgd_t, wgd_f]
  (first | (refine hk _ ?_; clear hk; (try clear k)) | (clear hk; (try clear k); refine hk _ ?_; clear hk; (try clear k)) | (clear hk; (try clear k); clear hk; (try clear k); refine hk _ ?_; clear hk; (try clear k)) | (clear hk; (try clear k); clear hk; (try clear k); clear hk; (try clear k); refine hk _ ?_; clear hk; (try clear k)))
  refine awp_seq' fun k1 hk1 => ?_
  refine awp_seq' fun k2 hk2 => awp_region (et := Try.et) Try.vtOK Try.etOK ?_
  simp (maxSteps := 5000000) (disch := first | (intro _; intros; contradiction) | omega) [i64_in, u8_in, vgd_t, vgd_f, wgd_t, wgd_f]
  refine ⟨fun h => ?_, fun h => ?_⟩
  all_goals
    (refine hk2 _ ?_; clear hk2)
    refine awp_cond rfl rfl (fun hc => ?_) (fun hc => ?_)
    · refine awp_seq' fun k hk => awp_region (et := Try.et) Try.vtOK Try.etOK ?_
      simp (maxSteps := 5000000) (disch := first | (intro _; intros; contradiction) | omega) [i64_in, u8_in, vgd_t, vgd_f, wgd_t, wgd_f]
      (first | (refine hk _ ?_; clear hk; (try clear k)) | (clear hk; (try clear k); refine hk _ ?_; clear hk; (try clear k)) | (clear hk; (try clear k); clear hk; (try clear k); refine hk _ ?_; clear hk; (try clear k)) | (clear hk; (try clear k); clear hk; (try clear k); clear hk; (try clear k); refine hk _ ?_; clear hk; (try clear k)))
      refine awp_ret ⟨.inr rfl, ?_⟩
      simp
    · simp at hc
      try omega

theorem law22_examples_S : FSpec Try.prog 12 [] [] (tB true) [] := by
  refine fspec_intro Try.func12 (by kernel_rfl) rfl Try.vtOK rfl Try.ntmps12 (by simp) ?_
  refine awp_seq' fun k hk => awp_region (et := Try.et) Try.vtOK Try.etOK ?_
  simp (maxSteps := 5000000) (disch := first | (intro _; intros; contradiction) | omega) [i64_in, u8_in, vgd_t, vgd_f, wgd_t, wgd_f]
  (first | (refine hk _ ?_; clear hk; (try clear k)) | (clear hk; (try clear k); refine hk _ ?_; clear hk; (try clear k)) | (clear hk; (try clear k); clear hk; (try clear k); refine hk _ ?_; clear hk; (try clear k)) | (clear hk; (try clear k); clear hk; (try clear k); clear hk; (try clear k); refine hk _ ?_; clear hk; (try clear k)))
  refine awp_seq' fun k hk => awp_region (et := Try.et) Try.vtOK Try.etOK ?_
  simp (maxSteps := 5000000) (disch := first | (intro _; intros; contradiction) | omega) [i64_in, u8_in, vgd_t, vgd_f, wgd_t, wgd_f]
  refine vcall_fn rfl (by simp) (LeTs.refl _) (law22_small_S) ?_
  simp (maxSteps := 5000000) (disch := first | (intro _; intros; contradiction) | omega) [i64_in, u8_in, vgd_t, vgd_f, wgd_t, wgd_f, smallN]
  (first | (refine hk _ ?_; clear hk; (try clear k)) | (clear hk; (try clear k); refine hk _ ?_; clear hk; (try clear k)) | (clear hk; (try clear k); clear hk; (try clear k); refine hk _ ?_; clear hk; (try clear k)) | (clear hk; (try clear k); clear hk; (try clear k); clear hk; (try clear k); refine hk _ ?_; clear hk; (try clear k)))
  refine awp_seq' fun k hk => awp_region (et := Try.et) Try.vtOK Try.etOK ?_
  simp (maxSteps := 5000000) (disch := first | (intro _; intros; contradiction) | omega) [i64_in, u8_in, vgd_t, vgd_f, wgd_t, wgd_f]
  (first | (refine hk _ ?_; clear hk; (try clear k)) | (clear hk; (try clear k); refine hk _ ?_; clear hk; (try clear k)) | (clear hk; (try clear k); clear hk; (try clear k); refine hk _ ?_; clear hk; (try clear k)) | (clear hk; (try clear k); clear hk; (try clear k); clear hk; (try clear k); refine hk _ ?_; clear hk; (try clear k)))
  refine awp_seq' fun k hk => awp_region (et := Try.et) Try.vtOK Try.etOK ?_
  simp (maxSteps := 5000000) (disch := first | (intro _; intros; contradiction) | omega) [i64_in, u8_in, vgd_t, vgd_f, wgd_t, wgd_f]
  (first | (refine hk _ ?_; clear hk; (try clear k)) | (clear hk; (try clear k); refine hk _ ?_; clear hk; (try clear k)) | (clear hk; (try clear k); clear hk; (try clear k); refine hk _ ?_; clear hk; (try clear k)) | (clear hk; (try clear k); clear hk; (try clear k); clear hk; (try clear k); refine hk _ ?_; clear hk; (try clear k)))
  refine awp_seq' fun k hk => awp_region (et := Try.et) Try.vtOK Try.etOK ?_
  simp (maxSteps := 5000000) (disch := first | (intro _; intros; contradiction) | omega) [i64_in, u8_in, vgd_t, vgd_f, wgd_t, wgd_f]
  refine vcall_fn rfl (by simp) ?_ (netsim_Inputs_S smallN [1] [] [(true, 0)] [] (by decide) smallN_okW.2.1) ?_
  · simp [smallN]
    exact ⟨⟨lit rfl, .nil _⟩, lit rfl, .nil _⟩
  simp (maxSteps := 5000000) (disch := first | (intro _; intros; contradiction) | omega) [i64_in, u8_in, vgd_t, vgd_f, wgd_t, wgd_f]
  rw [show List.map (inV [1] [(true, 0)] []) smallN.ins = [true, true] by decide +kernel]
  (first | (refine hk _ ?_; clear hk; (try clear k)) | (clear hk; (try clear k); refine hk _ ?_; clear hk; (try clear k)) | (clear hk; (try clear k); clear hk; (try clear k); refine hk _ ?_; clear hk; (try clear k)) | (clear hk; (try clear k); clear hk; (try clear k); clear hk; (try clear k); refine hk _ ?_; clear hk; (try clear k)))
  refine awp_seq' fun k hk => awp_region (et := Try.et) Try.vtOK Try.etOK ?_
  simp (maxSteps := 5000000) (disch := first | (intro _; intros; contradiction) | omega) [i64_in, u8_in, vgd_t, vgd_f, wgd_t, wgd_f]
  refine vcall_fn rfl (by simp) ?_ (law22_step_S smallN [1] [] [(true, 0)] [] (by decide) (by decide) (fun m hm => by cases hm) (by decide) (by decide) smallN_okX smallN_okW) ?_
  · simp [smallN]
    exact ⟨⟨lit rfl, .nil _⟩, lit rfl, .nil _⟩
  simp only [fiC, List.length_nil, List.length_cons, Nat.zero_add]
  rw [show smallN.eR (smallN.sv [1] [] [(true, 0)] []) 1 = [0] by decide +kernel, show smallN.eP (smallN.sv [1] [] [(true, 0)] []) 1 = [true] by decide +kernel, show smallN.eU (smallN.sv [1] [] [(true, 0)] []) 0 = [] by decide +kernel]
  simp (maxSteps := 5000000) (disch := first | (intro _; intros; contradiction) | omega) [i64_in, u8_in, vgd_t, vgd_f, wgd_t, wgd_f]
  (first | (refine hk _ ?_; clear hk; (try clear k)) | (clear hk; (try clear k); refine hk _ ?_; clear hk; (try clear k)) | (clear hk; (try clear k); clear hk; (try clear k); refine hk _ ?_; clear hk; (try clear k)) | (clear hk; (try clear k); clear hk; (try clear k); clear hk; (try clear k); refine hk _ ?_; clear hk; (try clear k)))
  refine awp_seq' fun k hk => ?_
  refine awp_seq' fun k hk => awp_region (et := Try.et) Try.vtOK Try.etOK ?_
  simp (maxSteps := 5000000) (disch := first | (intro _; intros; contradiction) | omega) [i64_in, u8_in, vgd_t, vgd_f, wgd_t, wgd_f]
  refine vcall_fn rfl (by simp) ?_ (ref13_Bools_S [true, true] [true, true] (by decide) (by decide)) ?_
  · simp
    exact lit rfl
  simp (maxSteps := 5000000) (disch := first | (intro _; intros; contradiction) | omega) [i64_in, u8_in, vgd_t, vgd_f, wgd_t, wgd_f]
  refine vcall_fn rfl (by simp) ?_ (netsim_Eval_S smallN [true, true] [] (by decide) (by decide) (by decide) smallN_okX.2.2.2.2.1) ?_
  · simp [smallN]
    exact .nil _
  rw [show evI smallN.gates [] [false, true, true, true] smallN.gates.length = [false, true, true, true, false] by decide +kernel]
  simp (maxSteps := 5000000) (disch := first | (intro _; intros; contradiction) | omega) [i64_in, u8_in, vgd_t, vgd_f, wgd_t, wgd_f]
  refine vcall_fn rfl (by simp) ?_ (ref13_Bools_S [false, true, true, true, false] [false, true, true, true, false] (by decide) (by decide)) ?_
  · simp
    exact lit rfl
  simp (maxSteps := 5000000) (disch := first | (intro _; intros; contradiction) | omega) [i64_in, u8_in, vgd_t, vgd_f, wgd_t, wgd_f]
  refine vcall_fn rfl (by simp) ?_ (ref12_Ints_S [0] [0] (by decide) (by decide)) ?_
  · simp
    exact lit rfl
  simp (maxSteps := 5000000) (disch := first | (intro _; intros; contradiction) | omega) [i64_in, u8_in, vgd_t, vgd_f, wgd_t, wgd_f]
  refine vcall_fn rfl (by simp) ?_ (ref13_Bools_S [true] [true] (by decide) (by decide)) ?_
  · simp
    exact lit rfl
  simp (maxSteps := 5000000) (disch := first | (intro _; intros; contradiction) | omega) [i64_in, u8_in, vgd_t, vgd_f, wgd_t, wgd_f]
  (first | (refine hk _ ?_; clear hk; (try clear k)) | (clear hk; (try clear k); refine hk _ ?_; clear hk; (try clear k)) | (clear hk; (try clear k); clear hk; (try clear k); refine hk _ ?_; clear hk; (try clear k)) | (clear hk; (try clear k); clear hk; (try clear k); clear hk; (try clear k); refine hk _ ?_; clear hk; (try clear k)))
  refine awp_cond rfl rfl (fun hc => ?_) (fun hc => ?_)
  · simp at hc
  · refine awp_skip ?_
    (first | (refine hk _ ?_; clear hk; (try clear k)) | (clear hk; (try clear k); refine hk _ ?_; clear hk; (try clear k)) | (clear hk; (try clear k); clear hk; (try clear k); refine hk _ ?_; clear hk; (try clear k)) | (clear hk; (try clear k); clear hk; (try clear k); clear hk; (try clear k); refine hk _ ?_; clear hk; (try clear k)))
    clear hc
    refine awp_seq' fun k hk => awp_region (et := Try.et) Try.vtOK Try.etOK ?_
    simp (maxSteps := 5000000) (disch := first | (intro _; intros; contradiction) | omega) [i64_in, u8_in, vgd_t, vgd_f, wgd_t, wgd_f]
    refine vcall_fn rfl (by simp) ?_ (netsim_Sensitive_S smallN [true, true] [] 1 (by decide) (by decide) (by decide) smallN_okX) ?_
    · simp [smallN]
      exact .nil _
    rw [show difI (drB (smallN.vals [true, true] []) smallN.drive) (drB (smallN.vals ([true, true].set 1 (![true, true][1]?.getD false)) []) smallN.drive) smallN.drive.length = [0, 1] by decide +kernel]
    simp (maxSteps := 5000000) (disch := first | (intro _; intros; contradiction) | omega) [i64_in, u8_in, vgd_t, vgd_f, wgd_t, wgd_f]
    refine vcall_fn rfl (by simp) ?_ (ref12_Ints_S [0, 1] [0, 1] (by decide) (by decide)) ?_
    · simp
      exact lit rfl
    simp (maxSteps := 5000000) (disch := first | (intro _; intros; contradiction) | omega) [i64_in, u8_in, vgd_t, vgd_f, wgd_t, wgd_f]
    refine vcall_fn rfl (by simp) ?_ (netsim_Sensitive_S smallN [true, true] [] 0 (by decide) (by decide) (by decide) smallN_okX) ?_
    · simp [smallN]
      exact .nil _
    rw [show difI (drB (smallN.vals [true, true] []) smallN.drive) (drB (smallN.vals ([true, true].set 0 (![true, true][0]?.getD false)) []) smallN.drive) smallN.drive.length = [0] by decide +kernel]
    simp (maxSteps := 5000000) (disch := first | (intro _; intros; contradiction) | omega) [i64_in, u8_in, vgd_t, vgd_f, wgd_t, wgd_f]
    refine vcall_fn rfl (by simp) ?_ (ref12_Ints_S [0] [0] (by decide) (by decide)) ?_
    · simp
      exact lit rfl
    simp (maxSteps := 5000000) (disch := first | (intro _; intros; contradiction) | omega) [i64_in, u8_in, vgd_t, vgd_f, wgd_t, wgd_f]
    refine vcall_fn rfl (by simp) ?_ (netsim_Sensitive_N smallN [true, true] [] 2 (by decide) (by decide)) ?_
    · simp [smallN]
      exact .nil _
    simp (maxSteps := 5000000) (disch := first | (intro _; intros; contradiction) | omega) [i64_in, u8_in, vgd_t, vgd_f, wgd_t, wgd_f]
    (first | (refine hk _ ?_; clear hk; (try clear k)) | (clear hk; (try clear k); refine hk _ ?_; clear hk; (try clear k)) | (clear hk; (try clear k); clear hk; (try clear k); refine hk _ ?_; clear hk; (try clear k)) | (clear hk; (try clear k); clear hk; (try clear k); clear hk; (try clear k); refine hk _ ?_; clear hk; (try clear k)))
    refine awp_ret ⟨.inr rfl, ?_⟩
    simp
end Go.Proofs
