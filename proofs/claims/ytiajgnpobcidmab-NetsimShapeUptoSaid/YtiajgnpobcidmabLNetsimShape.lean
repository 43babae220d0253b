/- NetsimShape holds: for every described net and all data of any kind of bulk at most 1048576 the Go function returns true, without a panic, and leaves its arguments as they were. No condition beyond the statement's own. -/
import Derived.Test.YtiajgnpobcidmabVa
import Derived.Test.YtiajgnpobcidmabVb
import Derived.Test.YtiajgnpobcidmabVc
import Derived.Test.YtiajgnpobcidmabVd
import Derived.Test.YtiajgnpobcidmabT
import Derived.Test.YtiajgnpobcidmabN1
import Derived.Test.YtiajgnpobcidmabN2
set_option linter.unusedSimpArgs false
set_option linter.unusedVariables false

namespace Go.Proofs.Ytiajgnpobcidmab.lawNetsimShape
open Go.V
set_option maxRecDepth 100000
set_option linter.unusedVariables false
theorem spec (dss : List (List D)) (h : FitsLL sh22 dss) (hb : ∀ l ∈ dss, ∀ x ∈ l, BndD 1048576 x) : FSpec Try.prog 3 (tsOf Try.vt [26, 38] dss) [] (tB true) [] := spec22B law22_NetsimShape_S dss h hb

theorem bulk_pos {H : Type} (d : DataW H) : 1 ≤ Rows.uptoBulk d := by
  cases d with
  | lit l => cases l <;> simp [Rows.uptoBulk]
  | _ => simp [Rows.uptoBulk]
theorem bulk_mem {H : Type} : ∀ (l : List (DataW H)) (d : DataW H), d ∈ l → Rows.uptoBulk d ≤ Rows.uptoBulkAll l
  | x :: r, d, h => by
    simp only [Rows.uptoBulkAll]
    rcases List.mem_cons.1 h with rfl | h
    · omega
    · have := bulk_mem r d h
      omega
theorem bulk_len {H : Type} : ∀ (l : List (DataW H)), l.length ≤ Rows.uptoBulkAll l
  | [] => Nat.zero_le _
  | x :: r => by
    have h1 := bulk_len r
    have h2 := bulk_pos x
    simp only [Rows.uptoBulkAll, List.length_cons]
    omega
theorem bulkOK {H : Type} : BulkOK (Rows.uptoBulk (H := H)) where
  el := fun es sp e he => by have := bulk_mem es e he; simp only [Rows.uptoBulk]; omega
  len := fun es sp => by have := bulk_len es; simp only [Rows.uptoBulk]; omega
  part := fun ps p hp => by have := bulk_mem ps p hp; simp only [Rows.uptoBulk]; omega
theorem own : ownKnob Try.prog.godebug = none := by kernel_rfl
theorem laidOut : laidOutB Try.prog = true := by kernel_rfl
theorem lifted (os : Os) (started : os.Started) (H : Type) (enc : TypeId × Value → H) (F0 : Stop.Interp) :
    ReturnsInHanded {} Try.checked os 3 .any ((Rows.OpenSpec.upto Rows.netsimShapeSpec).pre6 enc Try.prog Try.f3 Rows.netsimShapeUptoRow.domain false) (((Rows.OpenSpec.upto Rows.netsimShapeSpec).at F0).post enc Try.prog Try.f3 false true false false) := by
  refine returnsInHanded_of_cond (C := Try.checked) (s := Rows.OpenSpec.upto Rows.netsimShapeSpec) (k := Rows.uptoSmall) rfl own started (by kernel_rfl) Try.func3
    (OpenSpec.witness (enc := enc) (C := Try.checked) (s := Rows.OpenSpec.upto Rows.netsimShapeSpec) (k := Rows.uptoSmall) rfl false ⟨#[], #[.agg #[.slice none 0 0, .slice none 0 0, .slice none 0 0], .agg #[.slice none 0 0, .slice none 0 0, .slice none 0 0, .slice none 0 0, .slice none 0 0, .int .i64 0, .int .i8 0, .int .i8 0]], []⟩ 8 (by kernel_rfl) (by kernel_rfl) (by kernel_rfl)
      (x := ([.agg [.nil, .nil, .nil], .agg [.agg [.nil, .nil], .agg [.nil, .nil], .nil, .lit (.int .i64 0), .agg [.lit (.int .i8 0), .lit (.int .i8 0)]]], [], [])) (by kernel_rfl) (by kernel_rfl) (by kernel_rfl)) ?_
  intro W base args ds gs before hval hW _ hk _
  have hk2 : Rows.uptoBulkAll (ds ++ gs) ≤ 1048576 := by simpa [Rows.uptoSmall] using hk
  refine law_contractB (s := Rows.netsimShapeSpec) (m := 9) bulkOK Try.vtOK laidOut (ts := [26, 38]) (by kernel_rfl) ?_ (tb := 4) (by kernel_rfl) Try.underlying4 rfl ?_ (shss := _) rfl spec W base args ds gs before hval hW ?_
  · exact List.forall_mem_cons.2 ⟨⟨by kernel_rfl, of_decide_eq_true (by kernel_rfl)⟩, List.forall_mem_cons.2 ⟨⟨by kernel_rfl, of_decide_eq_true (by kernel_rfl)⟩, fun t ht => by cases ht⟩⟩
  · intro ds h
    match ds, h with
    | [a, b], _ => rfl
  · intro d hd
    exact Nat.le_trans (bulk_mem (ds ++ gs) d (List.mem_append_left _ hd)) hk2

theorem over : Rows.netsimShapeUptoRow.holds Try.pinned (Rows.OpenSpec.upto Rows.netsimShapeSpec) :=
  OpenClaim.holds_of_cond 3 Try.f3 rfl rfl rfl rfl rfl rfl rfl ⟨rfl, rfl, rfl, rfl, rfl⟩ rfl rfl rfl rfl rfl (by kernel_rfl) Try.func3 (by kernel_rfl)
    (of_decide_eq_true (by kernel_rfl)) (by unfold Func.isWrapper; first | (rw [if_pos (by decide +kernel)]; kernel_rfl) | (rw [if_neg (by decide +kernel)]; exact ⟨rfl, rfl⟩))
    (fun os started H enc _ F0 => lifted os started H enc F0)

theorem proved : Rows.NetsimShapeUptoSaid := over
end Go.Proofs.Ytiajgnpobcidmab.lawNetsimShape
