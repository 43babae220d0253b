/-
  No cell of these rows narrows 'for every input' (looked for: loops, veiled, ifaces, maps, wideKeys, modest, calm, conditions, laid).
  DERIVED. THE GIVEN ROWS OF THIS SEAT. 9 by the template 'for every input the law returns true; each argument reads behind the call as it read before'; 0 by the template 'total and deterministic' (their statements: YtiajgnpobcidmabTotals.lean).
  GIVEN WITH THE SEED: the statements are not yours to turn. If you find one false, say at which input.
  Laid BY PROGRAM, IN A SANDBOX (cutbox-rows.mjs): the forced cells as the released guide's own fill.sh prints them over the translation e8a0745bce09c16c… (all of the seat's roots in one cut). By AI agents, Wed Nov 11 2026. No macro, syntax, notation, axiom, sorry.
-/
import Derived.Test.YtiajgnpobcidmabChecked
import GoSem.Claim
import GoSem.ClaimJoined
import GoSem.ClaimMapViews
import Derived.JoinedTies
import Derived.KernelRfl
namespace Go.Proofs.Ytiajgnpobcidmab
/- THE CELL 'sum', in the pinned program and in every row, IS THE sha256 OF THE DUMP (.gsa) THAT YtiajgnpobcidmabProg.lean LOADS. Nothing in Lean hashes anything: it is a label: what it is worth is what the hold of that sum in a sandbox is worth. -/
noncomputable def Try.pinned : Pinned := { name := "ytiajgnpobcidmab", sum := "e8a0745bce09c16c60b36b116276dae2e6cca439e1451569d8855056f12f80a8", checked := Try.checked }
namespace Rows
def none {H : Type} : Left H := { results := [], args := [] }

/-- 'wireloomlaw22.NetsimShape': WHATEVER THE INPUT: true; the input reads as it did. -/
def netsimShapeSpec : ChangeSpec := { name := "netsimShape", fn := fun _ => fun
  | [d1, d2] => { results := [.lit (.bool true)], args := [d1, d2] }
  | _ => none }
def netsimShapeRow : OpenClaim := { program := "ytiajgnpobcidmab", sum := "e8a0745bce09c16c60b36b116276dae2e6cca439e1451569d8855056f12f80a8", func := "wireloom/wireloomlaw22.NetsimShape", spec := "netsimShape", unfollowed := true, recurses := true, plainKeys := false, apart := false }
def NetsimShapeSaid : Prop := netsimShapeRow.holds Try.pinned (OpenSpec.ofChange netsimShapeSpec)

/-- ITS FALSE NEIGHBOUR: 'it returns false'. Refute it at one input. -/
def netsimShapeWrong : ChangeSpec := { name := "netsimShape", fn := fun _ => fun
  | [d1, d2] => { results := [.lit (.bool false)], args := [d1, d2] }
  | _ => none }
def NetsimShapeWrongFalsely : Prop := netsimShapeRow.holds Try.pinned (OpenSpec.ofChange netsimShapeWrong)

/-- 'wireloomlaw24.EquivalenceRelates': WHATEVER THE INPUT: true; the input reads as it did. -/
def equivalenceRelatesSpec : ChangeSpec := { name := "equivalenceRelates", fn := fun _ => fun
  | [d1, d2, d3] => { results := [.lit (.bool true)], args := [d1, d2, d3] }
  | _ => none }
def equivalenceRelatesRow : OpenClaim := { program := "ytiajgnpobcidmab", sum := "e8a0745bce09c16c60b36b116276dae2e6cca439e1451569d8855056f12f80a8", func := "wireloom/wireloomlaw24.EquivalenceRelates", spec := "equivalenceRelates", unfollowed := true, recurses := true, plainKeys := false, apart := false }
def EquivalenceRelatesSaid : Prop := equivalenceRelatesRow.holds Try.pinned (OpenSpec.ofChange equivalenceRelatesSpec)

/-- ITS FALSE NEIGHBOUR: 'it returns false'. Refute it at one input. -/
def equivalenceRelatesWrong : ChangeSpec := { name := "equivalenceRelates", fn := fun _ => fun
  | [d1, d2, d3] => { results := [.lit (.bool false)], args := [d1, d2, d3] }
  | _ => none }
def EquivalenceRelatesWrongFalsely : Prop := equivalenceRelatesRow.holds Try.pinned (OpenSpec.ofChange equivalenceRelatesWrong)

/-- 'wireloomlaw24.EquivalenceDecides': WHATEVER THE INPUT: true; the input reads as it did. -/
def equivalenceDecidesSpec : ChangeSpec := { name := "equivalenceDecides", fn := fun _ => fun
  | [d1, d2, d3] => { results := [.lit (.bool true)], args := [d1, d2, d3] }
  | _ => none }
def equivalenceDecidesRow : OpenClaim := { program := "ytiajgnpobcidmab", sum := "e8a0745bce09c16c60b36b116276dae2e6cca439e1451569d8855056f12f80a8", func := "wireloom/wireloomlaw24.EquivalenceDecides", spec := "equivalenceDecides", unfollowed := true, recurses := true, plainKeys := false, apart := false }
def EquivalenceDecidesSaid : Prop := equivalenceDecidesRow.holds Try.pinned (OpenSpec.ofChange equivalenceDecidesSpec)

/-- ITS FALSE NEIGHBOUR: 'it returns false'. Refute it at one input. -/
def equivalenceDecidesWrong : ChangeSpec := { name := "equivalenceDecides", fn := fun _ => fun
  | [d1, d2, d3] => { results := [.lit (.bool false)], args := [d1, d2, d3] }
  | _ => none }
def EquivalenceDecidesWrongFalsely : Prop := equivalenceDecidesRow.holds Try.pinned (OpenSpec.ofChange equivalenceDecidesWrong)

/-- 'wireloomlaw24.EquivalenceClasses': WHATEVER THE INPUT: true; the input reads as it did. -/
def equivalenceClassesSpec : ChangeSpec := { name := "equivalenceClasses", fn := fun _ => fun
  | [d1, d2, d3] => { results := [.lit (.bool true)], args := [d1, d2, d3] }
  | _ => none }
def equivalenceClassesRow : OpenClaim := { program := "ytiajgnpobcidmab", sum := "e8a0745bce09c16c60b36b116276dae2e6cca439e1451569d8855056f12f80a8", func := "wireloom/wireloomlaw24.EquivalenceClasses", spec := "equivalenceClasses", unfollowed := true, recurses := true, plainKeys := false, apart := false }
def EquivalenceClassesSaid : Prop := equivalenceClassesRow.holds Try.pinned (OpenSpec.ofChange equivalenceClassesSpec)

/-- ITS FALSE NEIGHBOUR: 'it returns false'. Refute it at one input. -/
def equivalenceClassesWrong : ChangeSpec := { name := "equivalenceClasses", fn := fun _ => fun
  | [d1, d2, d3] => { results := [.lit (.bool false)], args := [d1, d2, d3] }
  | _ => none }
def EquivalenceClassesWrongFalsely : Prop := equivalenceClassesRow.holds Try.pinned (OpenSpec.ofChange equivalenceClassesWrong)

/-- 'wireloomlaw24.EquivalenceMiters': WHATEVER THE INPUT: true; the input reads as it did. -/
def equivalenceMitersSpec : ChangeSpec := { name := "equivalenceMiters", fn := fun _ => fun
  | [d1, d2, d3] => { results := [.lit (.bool true)], args := [d1, d2, d3] }
  | _ => none }
def equivalenceMitersRow : OpenClaim := { program := "ytiajgnpobcidmab", sum := "e8a0745bce09c16c60b36b116276dae2e6cca439e1451569d8855056f12f80a8", func := "wireloom/wireloomlaw24.EquivalenceMiters", spec := "equivalenceMiters", unfollowed := true, recurses := true, plainKeys := false, apart := false }
def EquivalenceMitersSaid : Prop := equivalenceMitersRow.holds Try.pinned (OpenSpec.ofChange equivalenceMitersSpec)

/-- ITS FALSE NEIGHBOUR: 'it returns false'. Refute it at one input. -/
def equivalenceMitersWrong : ChangeSpec := { name := "equivalenceMiters", fn := fun _ => fun
  | [d1, d2, d3] => { results := [.lit (.bool false)], args := [d1, d2, d3] }
  | _ => none }
def EquivalenceMitersWrongFalsely : Prop := equivalenceMitersRow.holds Try.pinned (OpenSpec.ofChange equivalenceMitersWrong)

/-- 'wireloomlaw21.NetlistInterface': WHATEVER THE INPUT: true; the input reads as it did. -/
def netlistInterfaceSpec : ChangeSpec := { name := "netlistInterface", fn := fun _ => fun
  | [d1, d2] => { results := [.lit (.bool true)], args := [d1, d2] }
  | _ => none }
def netlistInterfaceRow : OpenClaim := { program := "ytiajgnpobcidmab", sum := "e8a0745bce09c16c60b36b116276dae2e6cca439e1451569d8855056f12f80a8", func := "wireloom/wireloomlaw21.NetlistInterface", spec := "netlistInterface", unfollowed := true, recurses := true, plainKeys := false, apart := false }
def NetlistInterfaceSaid : Prop := netlistInterfaceRow.holds Try.pinned (OpenSpec.ofChange netlistInterfaceSpec)

/-- ITS FALSE NEIGHBOUR: 'it returns false'. Refute it at one input. -/
def netlistInterfaceWrong : ChangeSpec := { name := "netlistInterface", fn := fun _ => fun
  | [d1, d2] => { results := [.lit (.bool false)], args := [d1, d2] }
  | _ => none }
def NetlistInterfaceWrongFalsely : Prop := netlistInterfaceRow.holds Try.pinned (OpenSpec.ofChange netlistInterfaceWrong)

/-- 'wireloomlaw21.NetlistNormal': WHATEVER THE INPUT: true; the input reads as it did. -/
def netlistNormalSpec : ChangeSpec := { name := "netlistNormal", fn := fun _ => fun
  | [d1, d2] => { results := [.lit (.bool true)], args := [d1, d2] }
  | _ => none }
def netlistNormalRow : OpenClaim := { program := "ytiajgnpobcidmab", sum := "e8a0745bce09c16c60b36b116276dae2e6cca439e1451569d8855056f12f80a8", func := "wireloom/wireloomlaw21.NetlistNormal", spec := "netlistNormal", unfollowed := true, recurses := true, plainKeys := false, apart := false }
def NetlistNormalSaid : Prop := netlistNormalRow.holds Try.pinned (OpenSpec.ofChange netlistNormalSpec)

/-- ITS FALSE NEIGHBOUR: 'it returns false'. Refute it at one input. -/
def netlistNormalWrong : ChangeSpec := { name := "netlistNormal", fn := fun _ => fun
  | [d1, d2] => { results := [.lit (.bool false)], args := [d1, d2] }
  | _ => none }
def NetlistNormalWrongFalsely : Prop := netlistNormalRow.holds Try.pinned (OpenSpec.ofChange netlistNormalWrong)

/-- 'wireloomlaw21.NetlistNames': WHATEVER THE INPUT: true; the input reads as it did. -/
def netlistNamesSpec : ChangeSpec := { name := "netlistNames", fn := fun _ => fun
  | [d1, d2] => { results := [.lit (.bool true)], args := [d1, d2] }
  | _ => none }
def netlistNamesRow : OpenClaim := { program := "ytiajgnpobcidmab", sum := "e8a0745bce09c16c60b36b116276dae2e6cca439e1451569d8855056f12f80a8", func := "wireloom/wireloomlaw21.NetlistNames", spec := "netlistNames", unfollowed := true, recurses := true, plainKeys := false, apart := false }
def NetlistNamesSaid : Prop := netlistNamesRow.holds Try.pinned (OpenSpec.ofChange netlistNamesSpec)

/-- ITS FALSE NEIGHBOUR: 'it returns false'. Refute it at one input. -/
def netlistNamesWrong : ChangeSpec := { name := "netlistNames", fn := fun _ => fun
  | [d1, d2] => { results := [.lit (.bool false)], args := [d1, d2] }
  | _ => none }
def NetlistNamesWrongFalsely : Prop := netlistNamesRow.holds Try.pinned (OpenSpec.ofChange netlistNamesWrong)

/-- 'wireloomlaw21.NetlistDepth': WHATEVER THE INPUT: true; the input reads as it did. -/
def netlistDepthSpec : ChangeSpec := { name := "netlistDepth", fn := fun _ => fun
  | [d1, d2] => { results := [.lit (.bool true)], args := [d1, d2] }
  | _ => none }
def netlistDepthRow : OpenClaim := { program := "ytiajgnpobcidmab", sum := "e8a0745bce09c16c60b36b116276dae2e6cca439e1451569d8855056f12f80a8", func := "wireloom/wireloomlaw21.NetlistDepth", spec := "netlistDepth", unfollowed := true, recurses := true, plainKeys := false, apart := false }
def NetlistDepthSaid : Prop := netlistDepthRow.holds Try.pinned (OpenSpec.ofChange netlistDepthSpec)

/-- ITS FALSE NEIGHBOUR: 'it returns false'. Refute it at one input. -/
def netlistDepthWrong : ChangeSpec := { name := "netlistDepth", fn := fun _ => fun
  | [d1, d2] => { results := [.lit (.bool false)], args := [d1, d2] }
  | _ => none }
def NetlistDepthWrongFalsely : Prop := netlistDepthRow.holds Try.pinned (OpenSpec.ofChange netlistDepthWrong)

/- THE SECOND FORM. 'bulk': how many values and letters a reading holds, each counted each time it is reached (what is shared counts as often as it is met; a slice's spare places count too). A statement '..UptoSaid' is the law's where the arguments, and the package variables that the reading takes, are together of bulk at most 1048576: NARROWER than '..Said'. Prove '..Said' where nothing that the law and all that it calls make is longer than what came in: it says more and counts as full. Else prove '..UptoSaid'. A law counts once. -/
mutual
def uptoBulk {H : Type} : DataW H → Nat
  | .lit (.string bytes) => bytes.length + 1
  | .lit _ => 1
  | .nil => 1
  | .ptr d => uptoBulk d + 1
  | .slice elems spare => uptoBulkAll elems + uptoBulkAll spare + 1
  | .agg parts => uptoBulkAll parts + 1
  | .iface _ d => uptoBulk d + 1
  | .map entries => uptoBulkEntries entries + 1
  | .held _ => 1
def uptoBulkAll {H : Type} : List (DataW H) → Nat
  | [] => 0
  | d :: r => uptoBulk d + uptoBulkAll r
def uptoBulkEntries {H : Type} : List (Lit × DataW H) → Nat
  | [] => 0
  | x :: r => uptoBulkEntry x + uptoBulkEntries r
def uptoBulkEntry {H : Type} : Lit × DataW H → Nat
  | (.string bytes, d) => bytes.length + uptoBulk d + 1
  | (_, d) => uptoBulk d + 1
 end
def uptoSmall : (H : Type) → List (DataW H) → Bool := fun _ ds => decide (uptoBulkAll ds ≤ 1048576)
def OpenSpec.upto (s : _root_.Go.ChangeSpec) : _root_.Go.OpenSpec := { _root_.Go.OpenSpec.ofChange s with cond := some uptoSmall }

/-- 'wireloomlaw22.NetsimShape', WHERE WHAT IT READS IS OF BULK AT MOST 1048576: true; the input reads as it did. -/
def netsimShapeUptoRow : OpenClaim := { program := "ytiajgnpobcidmab", sum := "e8a0745bce09c16c60b36b116276dae2e6cca439e1451569d8855056f12f80a8", func := "wireloom/wireloomlaw22.NetsimShape", spec := "netsimShape", unfollowed := true, recurses := true, plainKeys := false, apart := false, narrowed := true }
def NetsimShapeUptoSaid : Prop := netsimShapeUptoRow.holds Try.pinned (OpenSpec.upto netsimShapeSpec)

/-- 'wireloomlaw24.EquivalenceRelates', WHERE WHAT IT READS IS OF BULK AT MOST 1048576: true; the input reads as it did. -/
def equivalenceRelatesUptoRow : OpenClaim := { program := "ytiajgnpobcidmab", sum := "e8a0745bce09c16c60b36b116276dae2e6cca439e1451569d8855056f12f80a8", func := "wireloom/wireloomlaw24.EquivalenceRelates", spec := "equivalenceRelates", unfollowed := true, recurses := true, plainKeys := false, apart := false, narrowed := true }
def EquivalenceRelatesUptoSaid : Prop := equivalenceRelatesUptoRow.holds Try.pinned (OpenSpec.upto equivalenceRelatesSpec)

/-- 'wireloomlaw24.EquivalenceDecides', WHERE WHAT IT READS IS OF BULK AT MOST 1048576: true; the input reads as it did. -/
def equivalenceDecidesUptoRow : OpenClaim := { program := "ytiajgnpobcidmab", sum := "e8a0745bce09c16c60b36b116276dae2e6cca439e1451569d8855056f12f80a8", func := "wireloom/wireloomlaw24.EquivalenceDecides", spec := "equivalenceDecides", unfollowed := true, recurses := true, plainKeys := false, apart := false, narrowed := true }
def EquivalenceDecidesUptoSaid : Prop := equivalenceDecidesUptoRow.holds Try.pinned (OpenSpec.upto equivalenceDecidesSpec)

/-- 'wireloomlaw24.EquivalenceClasses', WHERE WHAT IT READS IS OF BULK AT MOST 1048576: true; the input reads as it did. -/
def equivalenceClassesUptoRow : OpenClaim := { program := "ytiajgnpobcidmab", sum := "e8a0745bce09c16c60b36b116276dae2e6cca439e1451569d8855056f12f80a8", func := "wireloom/wireloomlaw24.EquivalenceClasses", spec := "equivalenceClasses", unfollowed := true, recurses := true, plainKeys := false, apart := false, narrowed := true }
def EquivalenceClassesUptoSaid : Prop := equivalenceClassesUptoRow.holds Try.pinned (OpenSpec.upto equivalenceClassesSpec)

/-- 'wireloomlaw24.EquivalenceMiters', WHERE WHAT IT READS IS OF BULK AT MOST 1048576: true; the input reads as it did. -/
def equivalenceMitersUptoRow : OpenClaim := { program := "ytiajgnpobcidmab", sum := "e8a0745bce09c16c60b36b116276dae2e6cca439e1451569d8855056f12f80a8", func := "wireloom/wireloomlaw24.EquivalenceMiters", spec := "equivalenceMiters", unfollowed := true, recurses := true, plainKeys := false, apart := false, narrowed := true }
def EquivalenceMitersUptoSaid : Prop := equivalenceMitersUptoRow.holds Try.pinned (OpenSpec.upto equivalenceMitersSpec)

/-- 'wireloomlaw21.NetlistInterface', WHERE WHAT IT READS IS OF BULK AT MOST 1048576: true; the input reads as it did. -/
def netlistInterfaceUptoRow : OpenClaim := { program := "ytiajgnpobcidmab", sum := "e8a0745bce09c16c60b36b116276dae2e6cca439e1451569d8855056f12f80a8", func := "wireloom/wireloomlaw21.NetlistInterface", spec := "netlistInterface", unfollowed := true, recurses := true, plainKeys := false, apart := false, narrowed := true }
def NetlistInterfaceUptoSaid : Prop := netlistInterfaceUptoRow.holds Try.pinned (OpenSpec.upto netlistInterfaceSpec)

/-- 'wireloomlaw21.NetlistNormal', WHERE WHAT IT READS IS OF BULK AT MOST 1048576: true; the input reads as it did. -/
def netlistNormalUptoRow : OpenClaim := { program := "ytiajgnpobcidmab", sum := "e8a0745bce09c16c60b36b116276dae2e6cca439e1451569d8855056f12f80a8", func := "wireloom/wireloomlaw21.NetlistNormal", spec := "netlistNormal", unfollowed := true, recurses := true, plainKeys := false, apart := false, narrowed := true }
def NetlistNormalUptoSaid : Prop := netlistNormalUptoRow.holds Try.pinned (OpenSpec.upto netlistNormalSpec)

/-- 'wireloomlaw21.NetlistNames', WHERE WHAT IT READS IS OF BULK AT MOST 1048576: true; the input reads as it did. -/
def netlistNamesUptoRow : OpenClaim := { program := "ytiajgnpobcidmab", sum := "e8a0745bce09c16c60b36b116276dae2e6cca439e1451569d8855056f12f80a8", func := "wireloom/wireloomlaw21.NetlistNames", spec := "netlistNames", unfollowed := true, recurses := true, plainKeys := false, apart := false, narrowed := true }
def NetlistNamesUptoSaid : Prop := netlistNamesUptoRow.holds Try.pinned (OpenSpec.upto netlistNamesSpec)

/-- 'wireloomlaw21.NetlistDepth', WHERE WHAT IT READS IS OF BULK AT MOST 1048576: true; the input reads as it did. -/
def netlistDepthUptoRow : OpenClaim := { program := "ytiajgnpobcidmab", sum := "e8a0745bce09c16c60b36b116276dae2e6cca439e1451569d8855056f12f80a8", func := "wireloom/wireloomlaw21.NetlistDepth", spec := "netlistDepth", unfollowed := true, recurses := true, plainKeys := false, apart := false, narrowed := true }
def NetlistDepthUptoSaid : Prop := netlistDepthUptoRow.holds Try.pinned (OpenSpec.upto netlistDepthSpec)

end Rows
end Go.Proofs.Ytiajgnpobcidmab
