/-
  No cell of these rows narrows 'for every input' (looked for: loops, veiled, ifaces, maps, wideKeys, modest, calm, conditions, laid).
  DERIVED. THE GIVEN ROWS OF THIS SEAT. 10 by the template 'for every input the law returns true; each argument reads behind the call as it read before'; 0 by the template 'total and deterministic' (their statements: YtiajgnpobcidmaaTotals.lean).
  GIVEN WITH THE SEED: the statements are not yours to turn. If you find one false, say at which input.
  Laid BY PROGRAM, IN A SANDBOX (cutbox-rows.mjs): the forced cells as the released guide's own fill.sh prints them over the translation c276ce63ddc20bcf… (all of the seat's roots in one cut). By AI agents, Wed Nov 11 2026. No macro, syntax, notation, axiom, sorry.
-/
import Derived.Test.YtiajgnpobcidmaaChecked
import GoSem.Claim
import GoSem.ClaimJoined
import GoSem.ClaimMapViews
import Derived.JoinedTies
import Derived.KernelRfl
namespace Go.Proofs.Ytiajgnpobcidmaa
/- THE CELL 'sum', in the pinned program and in every row, IS THE sha256 OF THE DUMP (.gsa) THAT YtiajgnpobcidmaaProg.lean LOADS. Nothing in Lean hashes anything: it is a label: what it is worth is what the hold of that sum in a sandbox is worth. -/
noncomputable def Try.pinned : Pinned := { name := "ytiajgnpobcidmaa", sum := "c276ce63ddc20bcf56ca27ae23f34eecd89c60ee6615ab8a69694af1c0b7032e", checked := Try.checked }
namespace Rows
def none {H : Type} : Left H := { results := [], args := [] }

/-- 'wireloomlaw43.FifoMatchesReference': WHATEVER THE INPUT: true; the input reads as it did. -/
def fifoMatchesReferenceSpec : ChangeSpec := { name := "fifoMatchesReference", fn := fun _ => fun
  | [d1, d2, d3] => { results := [.lit (.bool true)], args := [d1, d2, d3] }
  | _ => none }
def fifoMatchesReferenceRow : OpenClaim := { program := "ytiajgnpobcidmaa", sum := "c276ce63ddc20bcf56ca27ae23f34eecd89c60ee6615ab8a69694af1c0b7032e", func := "wireloom/wireloomlaw43.FifoMatchesReference", spec := "fifoMatchesReference", unfollowed := true, recurses := true, plainKeys := false, apart := false }
def FifoMatchesReferenceSaid : Prop := fifoMatchesReferenceRow.holds Try.pinned (OpenSpec.ofChange fifoMatchesReferenceSpec)

/-- ITS FALSE NEIGHBOUR: 'it returns false'. Refute it at one input. -/
def fifoMatchesReferenceWrong : ChangeSpec := { name := "fifoMatchesReference", fn := fun _ => fun
  | [d1, d2, d3] => { results := [.lit (.bool false)], args := [d1, d2, d3] }
  | _ => none }
def FifoMatchesReferenceWrongFalsely : Prop := fifoMatchesReferenceRow.holds Try.pinned (OpenSpec.ofChange fifoMatchesReferenceWrong)

/-- 'wireloomlaw43.FifoOrder': WHATEVER THE INPUT: true; the input reads as it did. -/
def fifoOrderSpec : ChangeSpec := { name := "fifoOrder", fn := fun _ => fun
  | [d1, d2, d3] => { results := [.lit (.bool true)], args := [d1, d2, d3] }
  | _ => none }
def fifoOrderRow : OpenClaim := { program := "ytiajgnpobcidmaa", sum := "c276ce63ddc20bcf56ca27ae23f34eecd89c60ee6615ab8a69694af1c0b7032e", func := "wireloom/wireloomlaw43.FifoOrder", spec := "fifoOrder", unfollowed := true, recurses := true, plainKeys := false, apart := false }
def FifoOrderSaid : Prop := fifoOrderRow.holds Try.pinned (OpenSpec.ofChange fifoOrderSpec)

/-- ITS FALSE NEIGHBOUR: 'it returns false'. Refute it at one input. -/
def fifoOrderWrong : ChangeSpec := { name := "fifoOrder", fn := fun _ => fun
  | [d1, d2, d3] => { results := [.lit (.bool false)], args := [d1, d2, d3] }
  | _ => none }
def FifoOrderWrongFalsely : Prop := fifoOrderRow.holds Try.pinned (OpenSpec.ofChange fifoOrderWrong)

/-- 'wireloomlaw43.FifoSafety': WHATEVER THE INPUT: true; the input reads as it did. -/
def fifoSafetySpec : ChangeSpec := { name := "fifoSafety", fn := fun _ => fun
  | [d1, d2, d3] => { results := [.lit (.bool true)], args := [d1, d2, d3] }
  | _ => none }
def fifoSafetyRow : OpenClaim := { program := "ytiajgnpobcidmaa", sum := "c276ce63ddc20bcf56ca27ae23f34eecd89c60ee6615ab8a69694af1c0b7032e", func := "wireloom/wireloomlaw43.FifoSafety", spec := "fifoSafety", unfollowed := true, recurses := true, plainKeys := false, apart := false }
def FifoSafetySaid : Prop := fifoSafetyRow.holds Try.pinned (OpenSpec.ofChange fifoSafetySpec)

/-- ITS FALSE NEIGHBOUR: 'it returns false'. Refute it at one input. -/
def fifoSafetyWrong : ChangeSpec := { name := "fifoSafety", fn := fun _ => fun
  | [d1, d2, d3] => { results := [.lit (.bool false)], args := [d1, d2, d3] }
  | _ => none }
def FifoSafetyWrongFalsely : Prop := fifoSafetyRow.holds Try.pinned (OpenSpec.ofChange fifoSafetyWrong)

/-- 'wireloomlaw43.FifoProgress': WHATEVER THE INPUT: true; the input reads as it did. -/
def fifoProgressSpec : ChangeSpec := { name := "fifoProgress", fn := fun _ => fun
  | [d1, d2, d3] => { results := [.lit (.bool true)], args := [d1, d2, d3] }
  | _ => none }
def fifoProgressRow : OpenClaim := { program := "ytiajgnpobcidmaa", sum := "c276ce63ddc20bcf56ca27ae23f34eecd89c60ee6615ab8a69694af1c0b7032e", func := "wireloom/wireloomlaw43.FifoProgress", spec := "fifoProgress", unfollowed := true, recurses := true, plainKeys := false, apart := false }
def FifoProgressSaid : Prop := fifoProgressRow.holds Try.pinned (OpenSpec.ofChange fifoProgressSpec)

/-- ITS FALSE NEIGHBOUR: 'it returns false'. Refute it at one input. -/
def fifoProgressWrong : ChangeSpec := { name := "fifoProgress", fn := fun _ => fun
  | [d1, d2, d3] => { results := [.lit (.bool false)], args := [d1, d2, d3] }
  | _ => none }
def FifoProgressWrongFalsely : Prop := fifoProgressRow.holds Try.pinned (OpenSpec.ofChange fifoProgressWrong)

/-- 'wireloomlaw43.FifoIndependence': WHATEVER THE INPUT: true; the input reads as it did. -/
def fifoIndependenceSpec : ChangeSpec := { name := "fifoIndependence", fn := fun _ => fun
  | [d1, d2, d3] => { results := [.lit (.bool true)], args := [d1, d2, d3] }
  | _ => none }
def fifoIndependenceRow : OpenClaim := { program := "ytiajgnpobcidmaa", sum := "c276ce63ddc20bcf56ca27ae23f34eecd89c60ee6615ab8a69694af1c0b7032e", func := "wireloom/wireloomlaw43.FifoIndependence", spec := "fifoIndependence", unfollowed := true, recurses := true, plainKeys := false, apart := false }
def FifoIndependenceSaid : Prop := fifoIndependenceRow.holds Try.pinned (OpenSpec.ofChange fifoIndependenceSpec)

/-- ITS FALSE NEIGHBOUR: 'it returns false'. Refute it at one input. -/
def fifoIndependenceWrong : ChangeSpec := { name := "fifoIndependence", fn := fun _ => fun
  | [d1, d2, d3] => { results := [.lit (.bool false)], args := [d1, d2, d3] }
  | _ => none }
def FifoIndependenceWrongFalsely : Prop := fifoIndependenceRow.holds Try.pinned (OpenSpec.ofChange fifoIndependenceWrong)

/-- 'wireloomlaw43.FifoDrains': WHATEVER THE INPUT: true; the input reads as it did. -/
def fifoDrainsSpec : ChangeSpec := { name := "fifoDrains", fn := fun _ => fun
  | [d1, d2] => { results := [.lit (.bool true)], args := [d1, d2] }
  | _ => none }
def fifoDrainsRow : OpenClaim := { program := "ytiajgnpobcidmaa", sum := "c276ce63ddc20bcf56ca27ae23f34eecd89c60ee6615ab8a69694af1c0b7032e", func := "wireloom/wireloomlaw43.FifoDrains", spec := "fifoDrains", unfollowed := true, recurses := true, plainKeys := false, apart := false }
def FifoDrainsSaid : Prop := fifoDrainsRow.holds Try.pinned (OpenSpec.ofChange fifoDrainsSpec)

/-- ITS FALSE NEIGHBOUR: 'it returns false'. Refute it at one input. -/
def fifoDrainsWrong : ChangeSpec := { name := "fifoDrains", fn := fun _ => fun
  | [d1, d2] => { results := [.lit (.bool false)], args := [d1, d2] }
  | _ => none }
def FifoDrainsWrongFalsely : Prop := fifoDrainsRow.holds Try.pinned (OpenSpec.ofChange fifoDrainsWrong)

/-- 'wireloomlaw22.NetsimMatchesReference': WHATEVER THE INPUT: true; the input reads as it did. -/
def netsimMatchesReferenceSpec : ChangeSpec := { name := "netsimMatchesReference", fn := fun _ => fun
  | [d1, d2, d3] => { results := [.lit (.bool true)], args := [d1, d2, d3] }
  | _ => none }
def netsimMatchesReferenceRow : OpenClaim := { program := "ytiajgnpobcidmaa", sum := "c276ce63ddc20bcf56ca27ae23f34eecd89c60ee6615ab8a69694af1c0b7032e", func := "wireloom/wireloomlaw22.NetsimMatchesReference", spec := "netsimMatchesReference", unfollowed := true, recurses := true, plainKeys := false, apart := false }
def NetsimMatchesReferenceSaid : Prop := netsimMatchesReferenceRow.holds Try.pinned (OpenSpec.ofChange netsimMatchesReferenceSpec)

/-- ITS FALSE NEIGHBOUR: 'it returns false'. Refute it at one input. -/
def netsimMatchesReferenceWrong : ChangeSpec := { name := "netsimMatchesReference", fn := fun _ => fun
  | [d1, d2, d3] => { results := [.lit (.bool false)], args := [d1, d2, d3] }
  | _ => none }
def NetsimMatchesReferenceWrongFalsely : Prop := netsimMatchesReferenceRow.holds Try.pinned (OpenSpec.ofChange netsimMatchesReferenceWrong)

/-- 'wireloomlaw22.NetsimGates': WHATEVER THE INPUT: true; the input reads as it did. -/
def netsimGatesSpec : ChangeSpec := { name := "netsimGates", fn := fun _ => fun
  | [d1, d2] => { results := [.lit (.bool true)], args := [d1, d2] }
  | _ => none }
def netsimGatesRow : OpenClaim := { program := "ytiajgnpobcidmaa", sum := "c276ce63ddc20bcf56ca27ae23f34eecd89c60ee6615ab8a69694af1c0b7032e", func := "wireloom/wireloomlaw22.NetsimGates", spec := "netsimGates", unfollowed := true, recurses := true, plainKeys := false, apart := false }
def NetsimGatesSaid : Prop := netsimGatesRow.holds Try.pinned (OpenSpec.ofChange netsimGatesSpec)

/-- ITS FALSE NEIGHBOUR: 'it returns false'. Refute it at one input. -/
def netsimGatesWrong : ChangeSpec := { name := "netsimGates", fn := fun _ => fun
  | [d1, d2] => { results := [.lit (.bool false)], args := [d1, d2] }
  | _ => none }
def NetsimGatesWrongFalsely : Prop := netsimGatesRow.holds Try.pinned (OpenSpec.ofChange netsimGatesWrong)

/-- 'wireloomlaw22.NetsimCones': WHATEVER THE INPUT: true; the input reads as it did. -/
def netsimConesSpec : ChangeSpec := { name := "netsimCones", fn := fun _ => fun
  | [d1, d2] => { results := [.lit (.bool true)], args := [d1, d2] }
  | _ => none }
def netsimConesRow : OpenClaim := { program := "ytiajgnpobcidmaa", sum := "c276ce63ddc20bcf56ca27ae23f34eecd89c60ee6615ab8a69694af1c0b7032e", func := "wireloom/wireloomlaw22.NetsimCones", spec := "netsimCones", unfollowed := true, recurses := true, plainKeys := false, apart := false }
def NetsimConesSaid : Prop := netsimConesRow.holds Try.pinned (OpenSpec.ofChange netsimConesSpec)

/-- ITS FALSE NEIGHBOUR: 'it returns false'. Refute it at one input. -/
def netsimConesWrong : ChangeSpec := { name := "netsimCones", fn := fun _ => fun
  | [d1, d2] => { results := [.lit (.bool false)], args := [d1, d2] }
  | _ => none }
def NetsimConesWrongFalsely : Prop := netsimConesRow.holds Try.pinned (OpenSpec.ofChange netsimConesWrong)

/-- 'wireloomlaw22.NetsimComplement': WHATEVER THE INPUT: true; the input reads as it did. -/
def netsimComplementSpec : ChangeSpec := { name := "netsimComplement", fn := fun _ => fun
  | [d1, d2] => { results := [.lit (.bool true)], args := [d1, d2] }
  | _ => none }
def netsimComplementRow : OpenClaim := { program := "ytiajgnpobcidmaa", sum := "c276ce63ddc20bcf56ca27ae23f34eecd89c60ee6615ab8a69694af1c0b7032e", func := "wireloom/wireloomlaw22.NetsimComplement", spec := "netsimComplement", unfollowed := true, recurses := true, plainKeys := false, apart := false }
def NetsimComplementSaid : Prop := netsimComplementRow.holds Try.pinned (OpenSpec.ofChange netsimComplementSpec)

/-- ITS FALSE NEIGHBOUR: 'it returns false'. Refute it at one input. -/
def netsimComplementWrong : ChangeSpec := { name := "netsimComplement", fn := fun _ => fun
  | [d1, d2] => { results := [.lit (.bool false)], args := [d1, d2] }
  | _ => none }
def NetsimComplementWrongFalsely : Prop := netsimComplementRow.holds Try.pinned (OpenSpec.ofChange netsimComplementWrong)

/- THE SECOND FORM. 'bulk': how many values and letters a reading holds, each counted each time it is reached (what is shared counts as often as it is met; a slice's spare places count too). A statement '..UptoSaid' is the law's where the arguments, and the package variables that the reading takes, are together of bulk at most 1048576: NARROWER than '..Said'. Prove '..Said' where nothing that the law and all that it calls make is longer than what came in: it says more and counts as full. Else prove '..UptoSaid'. A law counts once. -/
mutual
def uptoBulk {H : Type} : DataW H → Nat
  | .lit (.string bytes) => bytes.length + 1
  | .lit _ => 1
  | .nil => 1
  | .ptr d => uptoBulk d + 1
  | .slice elems spare => uptoBulkAll elems + uptoBulkAll spare + 1
  | .agg parts => uptoBulkAll parts + 1
  | .iface _ d => uptoBulk d + 1
  | .map entries => uptoBulkEntries entries + 1
  | .held _ => 1
def uptoBulkAll {H : Type} : List (DataW H) → Nat
  | [] => 0
  | d :: r => uptoBulk d + uptoBulkAll r
def uptoBulkEntries {H : Type} : List (Lit × DataW H) → Nat
  | [] => 0
  | x :: r => uptoBulkEntry x + uptoBulkEntries r
def uptoBulkEntry {H : Type} : Lit × DataW H → Nat
  | (.string bytes, d) => bytes.length + uptoBulk d + 1
  | (_, d) => uptoBulk d + 1
 end
def uptoSmall : (H : Type) → List (DataW H) → Bool := fun _ ds => decide (uptoBulkAll ds ≤ 1048576)
def OpenSpec.upto (s : _root_.Go.ChangeSpec) : _root_.Go.OpenSpec := { _root_.Go.OpenSpec.ofChange s with cond := some uptoSmall }

/-- 'wireloomlaw43.FifoMatchesReference', WHERE WHAT IT READS IS OF BULK AT MOST 1048576: true; the input reads as it did. -/
def fifoMatchesReferenceUptoRow : OpenClaim := { program := "ytiajgnpobcidmaa", sum := "c276ce63ddc20bcf56ca27ae23f34eecd89c60ee6615ab8a69694af1c0b7032e", func := "wireloom/wireloomlaw43.FifoMatchesReference", spec := "fifoMatchesReference", unfollowed := true, recurses := true, plainKeys := false, apart := false, narrowed := true }
def FifoMatchesReferenceUptoSaid : Prop := fifoMatchesReferenceUptoRow.holds Try.pinned (OpenSpec.upto fifoMatchesReferenceSpec)

/-- 'wireloomlaw43.FifoOrder', WHERE WHAT IT READS IS OF BULK AT MOST 1048576: true; the input reads as it did. -/
def fifoOrderUptoRow : OpenClaim := { program := "ytiajgnpobcidmaa", sum := "c276ce63ddc20bcf56ca27ae23f34eecd89c60ee6615ab8a69694af1c0b7032e", func := "wireloom/wireloomlaw43.FifoOrder", spec := "fifoOrder", unfollowed := true, recurses := true, plainKeys := false, apart := false, narrowed := true }
def FifoOrderUptoSaid : Prop := fifoOrderUptoRow.holds Try.pinned (OpenSpec.upto fifoOrderSpec)

/-- 'wireloomlaw43.FifoSafety', WHERE WHAT IT READS IS OF BULK AT MOST 1048576: true; the input reads as it did. -/
def fifoSafetyUptoRow : OpenClaim := { program := "ytiajgnpobcidmaa", sum := "c276ce63ddc20bcf56ca27ae23f34eecd89c60ee6615ab8a69694af1c0b7032e", func := "wireloom/wireloomlaw43.FifoSafety", spec := "fifoSafety", unfollowed := true, recurses := true, plainKeys := false, apart := false, narrowed := true }
def FifoSafetyUptoSaid : Prop := fifoSafetyUptoRow.holds Try.pinned (OpenSpec.upto fifoSafetySpec)

/-- 'wireloomlaw43.FifoProgress', WHERE WHAT IT READS IS OF BULK AT MOST 1048576: true; the input reads as it did. -/
def fifoProgressUptoRow : OpenClaim := { program := "ytiajgnpobcidmaa", sum := "c276ce63ddc20bcf56ca27ae23f34eecd89c60ee6615ab8a69694af1c0b7032e", func := "wireloom/wireloomlaw43.FifoProgress", spec := "fifoProgress", unfollowed := true, recurses := true, plainKeys := false, apart := false, narrowed := true }
def FifoProgressUptoSaid : Prop := fifoProgressUptoRow.holds Try.pinned (OpenSpec.upto fifoProgressSpec)

/-- 'wireloomlaw43.FifoIndependence', WHERE WHAT IT READS IS OF BULK AT MOST 1048576: true; the input reads as it did. -/
def fifoIndependenceUptoRow : OpenClaim := { program := "ytiajgnpobcidmaa", sum := "c276ce63ddc20bcf56ca27ae23f34eecd89c60ee6615ab8a69694af1c0b7032e", func := "wireloom/wireloomlaw43.FifoIndependence", spec := "fifoIndependence", unfollowed := true, recurses := true, plainKeys := false, apart := false, narrowed := true }
def FifoIndependenceUptoSaid : Prop := fifoIndependenceUptoRow.holds Try.pinned (OpenSpec.upto fifoIndependenceSpec)

/-- 'wireloomlaw43.FifoDrains', WHERE WHAT IT READS IS OF BULK AT MOST 1048576: true; the input reads as it did. -/
def fifoDrainsUptoRow : OpenClaim := { program := "ytiajgnpobcidmaa", sum := "c276ce63ddc20bcf56ca27ae23f34eecd89c60ee6615ab8a69694af1c0b7032e", func := "wireloom/wireloomlaw43.FifoDrains", spec := "fifoDrains", unfollowed := true, recurses := true, plainKeys := false, apart := false, narrowed := true }
def FifoDrainsUptoSaid : Prop := fifoDrainsUptoRow.holds Try.pinned (OpenSpec.upto fifoDrainsSpec)

/-- 'wireloomlaw22.NetsimMatchesReference', WHERE WHAT IT READS IS OF BULK AT MOST 1048576: true; the input reads as it did. -/
def netsimMatchesReferenceUptoRow : OpenClaim := { program := "ytiajgnpobcidmaa", sum := "c276ce63ddc20bcf56ca27ae23f34eecd89c60ee6615ab8a69694af1c0b7032e", func := "wireloom/wireloomlaw22.NetsimMatchesReference", spec := "netsimMatchesReference", unfollowed := true, recurses := true, plainKeys := false, apart := false, narrowed := true }
def NetsimMatchesReferenceUptoSaid : Prop := netsimMatchesReferenceUptoRow.holds Try.pinned (OpenSpec.upto netsimMatchesReferenceSpec)

/-- 'wireloomlaw22.NetsimGates', WHERE WHAT IT READS IS OF BULK AT MOST 1048576: true; the input reads as it did. -/
def netsimGatesUptoRow : OpenClaim := { program := "ytiajgnpobcidmaa", sum := "c276ce63ddc20bcf56ca27ae23f34eecd89c60ee6615ab8a69694af1c0b7032e", func := "wireloom/wireloomlaw22.NetsimGates", spec := "netsimGates", unfollowed := true, recurses := true, plainKeys := false, apart := false, narrowed := true }
def NetsimGatesUptoSaid : Prop := netsimGatesUptoRow.holds Try.pinned (OpenSpec.upto netsimGatesSpec)

/-- 'wireloomlaw22.NetsimCones', WHERE WHAT IT READS IS OF BULK AT MOST 1048576: true; the input reads as it did. -/
def netsimConesUptoRow : OpenClaim := { program := "ytiajgnpobcidmaa", sum := "c276ce63ddc20bcf56ca27ae23f34eecd89c60ee6615ab8a69694af1c0b7032e", func := "wireloom/wireloomlaw22.NetsimCones", spec := "netsimCones", unfollowed := true, recurses := true, plainKeys := false, apart := false, narrowed := true }
def NetsimConesUptoSaid : Prop := netsimConesUptoRow.holds Try.pinned (OpenSpec.upto netsimConesSpec)

/-- 'wireloomlaw22.NetsimComplement', WHERE WHAT IT READS IS OF BULK AT MOST 1048576: true; the input reads as it did. -/
def netsimComplementUptoRow : OpenClaim := { program := "ytiajgnpobcidmaa", sum := "c276ce63ddc20bcf56ca27ae23f34eecd89c60ee6615ab8a69694af1c0b7032e", func := "wireloom/wireloomlaw22.NetsimComplement", spec := "netsimComplement", unfollowed := true, recurses := true, plainKeys := false, apart := false, narrowed := true }
def NetsimComplementUptoSaid : Prop := netsimComplementUptoRow.holds Try.pinned (OpenSpec.upto netsimComplementSpec)

end Rows
end Go.Proofs.Ytiajgnpobcidmaa
