/- FifoIndependence holds: for every capacity, every list of bytes and every pair of bytes the Go function returns true, without a panic, and leaves its arguments as they were. No condition beyond the statement's own. -/
import Derived.Test.YtiajgnpobcidmaaVa
import Derived.Test.YtiajgnpobcidmaaVb
import Derived.Test.YtiajgnpobcidmaaVc
import Derived.Test.YtiajgnpobcidmaaVd
import Derived.Test.YtiajgnpobcidmaaT
import Derived.Test.YtiajgnpobcidmaaF
set_option linter.unusedSimpArgs false
set_option linter.unusedVariables false

namespace Go.Proofs.Ytiajgnpobcidmaa.lawFifoIndependence
open Go.V
set_option maxRecDepth 100000
set_option linter.unusedVariables false

theorem own : ownKnob Try.prog.godebug = none := by kernel_rfl
theorem laidOut : laidOutB Try.prog = true := by kernel_rfl

theorem spec (dss : List (List D)) (h : FitsLL [[.int .u8], [.slice [.int .u8]], [.int .u8, .int .u8]] dss) : FSpec Try.prog 7 (tsOf Try.vt [5, 22, 51] dss) [] (tB true) [] := by
  match dss, h with
  | [[c], [l], [x, y]], h =>
    simp only [FitsLL, FitsL, and_true] at h
    obtain ⟨hc, hl, hx, hy⟩ := h
    cases hc with
    | @int _ c wc => cases hx with
      | @int _ x wx => cases hy with
        | @int _ y wy =>
          cases hl with
          | @slice _ n f hn hl h =>
            obtain ⟨l, rfl, hl1, hl2⟩ := fits_bytes (.slice hn hl h)
            simp [Lit.wf, IntKind.min, IntKind.max, IntKind.signed, IntKind.bits] at wc wx wy
            refine FSpec.le (law43_FifoIndependence_S c l x y (by omega) hl1 (by omega) (by omega)) ?_
            simp [tsOf, tOf]
            exact hl2

theorem lifted (os : Os) (started : os.Started) (H : Type) (enc : TypeId × Value → H) :
    ReturnsInHanded {} Try.checked os 7 .any (Rows.fifoIndependenceSpec.pre6 enc Try.prog Try.f7 Rows.fifoIndependenceRow.domain false) (Rows.fifoIndependenceSpec.post enc Try.prog Try.f7 false true false false) := by
  refine returnsInHanded_of_change (C := Try.checked) own started (by kernel_rfl) Try.func7
    (ChangeSpec.witness6 (enc := enc) (C := Try.checked) false ⟨#[], #[.int .u8 0, .slice none 0 0, .agg #[.int .u8 0, .int .u8 0]], []⟩ 8 (by kernel_rfl) (by kernel_rfl) (by kernel_rfl) (by kernel_rfl)) ?_
  intro W base args ds gs before hval hW _ _
  refine law_contract (m := 9) Try.vtOK laidOut (ts := [5, 22, 51]) (by kernel_rfl) ?_ (tb := 4) (by kernel_rfl) Try.underlying4 rfl ?_ (shss := _) rfl spec W base args ds gs before hval hW
  · refine List.forall_mem_cons.2 ⟨⟨by kernel_rfl, of_decide_eq_true (by kernel_rfl)⟩, List.forall_mem_cons.2 ⟨⟨by kernel_rfl, of_decide_eq_true (by kernel_rfl)⟩, List.forall_mem_cons.2 ⟨⟨by kernel_rfl, of_decide_eq_true (by kernel_rfl)⟩, fun t ht => by cases ht⟩⟩⟩
  · intro ds h
    match ds, h with
    | [a, b, c], _ => rfl

theorem over : Rows.fifoIndependenceRow.holds Try.pinned (OpenSpec.ofChange Rows.fifoIndependenceSpec) :=
  OpenClaim.holds_of_wide 7 Try.f7 rfl rfl rfl rfl rfl rfl rfl ⟨rfl, rfl, rfl, rfl, rfl⟩ rfl rfl rfl rfl rfl (by kernel_rfl) Try.func7 (by kernel_rfl)
    (of_decide_eq_true (by kernel_rfl)) (by unfold Func.isWrapper; first | (rw [if_pos (by decide +kernel)]; kernel_rfl) | (rw [if_neg (by decide +kernel)]; exact ⟨rfl, rfl⟩))
    (fun os started H enc _ => lifted os started H enc)

theorem proved : Rows.FifoIndependenceSaid := over
end Go.Proofs.Ytiajgnpobcidmaa.lawFifoIndependence
