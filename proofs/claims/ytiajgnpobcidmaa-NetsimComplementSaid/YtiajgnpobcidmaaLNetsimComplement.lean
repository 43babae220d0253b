/- NetsimComplement holds: for every described net and all data of any kind the Go function returns true, without a panic, and leaves its arguments as they were. No condition beyond the statement's own. -/
import Derived.Test.YtiajgnpobcidmaaVa
import Derived.Test.YtiajgnpobcidmaaVb
import Derived.Test.YtiajgnpobcidmaaVc
import Derived.Test.YtiajgnpobcidmaaVd
import Derived.Test.YtiajgnpobcidmaaT
import Derived.Test.YtiajgnpobcidmaaN1
import Derived.Test.YtiajgnpobcidmaaN2
import Derived.Test.YtiajgnpobcidmaaN3
import Derived.Test.YtiajgnpobcidmaaN4
set_option linter.unusedSimpArgs false
set_option linter.unusedVariables false

namespace Go.Proofs.Ytiajgnpobcidmaa.lawNetsimComplement
open Go.V
set_option maxRecDepth 100000
set_option linter.unusedVariables false
theorem spec (dss : List (List D)) (h : FitsLL sh22 dss) : FSpec Try.prog 12 (tsOf Try.vt [59, 70] dss) [] (tB true) [] := spec22 law22_NetsimComplement_S dss h

theorem own : ownKnob Try.prog.godebug = none := by kernel_rfl
theorem laidOut : laidOutB Try.prog = true := by kernel_rfl
theorem lifted (os : Os) (started : os.Started) (H : Type) (enc : TypeId × Value → H) :
    ReturnsInHanded {} Try.checked os 12 .any (Rows.netsimComplementSpec.pre6 enc Try.prog Try.f12 Rows.netsimComplementRow.domain false) (Rows.netsimComplementSpec.post enc Try.prog Try.f12 false true false false) := by
  refine returnsInHanded_of_change (C := Try.checked) own started (by kernel_rfl) Try.func12
    (ChangeSpec.witness6 (enc := enc) (C := Try.checked) false ⟨#[], #[.agg #[.slice none 0 0, .slice none 0 0, .slice none 0 0], .agg #[.slice none 0 0, .slice none 0 0, .slice none 0 0, .slice none 0 0, .slice none 0 0, .int .i64 0, .int .i8 0, .int .i8 0]], []⟩ 8 (by kernel_rfl) (by kernel_rfl) (by kernel_rfl) (by kernel_rfl)) ?_
  intro W base args ds gs before hval hW _ _
  refine law_contract (m := 9) Try.vtOK laidOut (ts := [59, 70]) (by kernel_rfl) ?_ (tb := 4) (by kernel_rfl) Try.underlying4 rfl ?_ (shss := _) rfl spec W base args ds gs before hval hW
  · exact List.forall_mem_cons.2 ⟨⟨by kernel_rfl, of_decide_eq_true (by kernel_rfl)⟩, List.forall_mem_cons.2 ⟨⟨by kernel_rfl, of_decide_eq_true (by kernel_rfl)⟩, fun t ht => by cases ht⟩⟩
  · intro ds h
    match ds, h with
    | [a, b], _ => rfl

theorem over : Rows.netsimComplementRow.holds Try.pinned (OpenSpec.ofChange Rows.netsimComplementSpec) :=
  OpenClaim.holds_of_wide 12 Try.f12 rfl rfl rfl rfl rfl rfl rfl ⟨rfl, rfl, rfl, rfl, rfl⟩ rfl rfl rfl rfl rfl (by kernel_rfl) Try.func12 (by kernel_rfl)
    (of_decide_eq_true (by kernel_rfl)) (by unfold Func.isWrapper; first | (rw [if_pos (by decide +kernel)]; kernel_rfl) | (rw [if_neg (by decide +kernel)]; exact ⟨rfl, rfl⟩))
    (fun os started H enc _ => lifted os started H enc)

theorem proved : Rows.NetsimComplementSaid := over
end Go.Proofs.Ytiajgnpobcidmaa.lawNetsimComplement
