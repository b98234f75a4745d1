/-
  No cell of these rows narrows 'for every input' (looked for: loops, veiled, ifaces, maps, wideKeys, modest, calm, conditions, laid).
  DERIVED. THE GIVEN ROWS OF THIS SEAT. 7 by the template 'for every input the law returns true; each argument reads behind the call as it read before'; 0 by the template 'total and deterministic' (their statements: YteilpiddonoikaaTotals.lean).
  GIVEN WITH THE SEED: the statements are not yours to turn. If you find one false, say at which input.
  Laid BY PROGRAM, IN A SANDBOX (cutbox-rows.mjs): the forced cells as the released guide's own fill.sh prints them over the translation cb81a566964f60b0… (all of the seat's roots in one cut). By AI agents, Wed Nov 11 2026. No macro, syntax, notation, axiom, sorry.
-/
import Derived.Test.YteilpiddonoikaaChecked
import GoSem.Claim
import GoSem.ClaimJoined
import GoSem.ClaimMapViews
import Derived.JoinedTies
import Derived.KernelRfl
namespace Go.Proofs.Yteilpiddonoikaa
/- THE CELL 'sum', in the pinned program and in every row, IS THE sha256 OF THE DUMP (.gsa) THAT YteilpiddonoikaaProg.lean LOADS. Nothing in Lean hashes anything: it is a label: what it is worth is what the hold of that sum in a sandbox is worth. -/
noncomputable def Try.pinned : Pinned := { name := "yteilpiddonoikaa", sum := "cb81a566964f60b0796e863db503d2e7ac1454d8c09139b47cfbce86b3e303c8", checked := Try.checked }
namespace Rows
def none {H : Type} : Left H := { results := [], args := [] }

/-- 'laws.FnExactIsRing': WHATEVER THE INPUT: true; the input reads as it did. -/
def fnExactIsRingSpec : ChangeSpec := { name := "fnExactIsRing", fn := fun _ => fun
  | [d1, d2] => { results := [.lit (.bool true)], args := [d1, d2] }
  | _ => none }
def fnExactIsRingRow : OpenClaim := { program := "yteilpiddonoikaa", sum := "cb81a566964f60b0796e863db503d2e7ac1454d8c09139b47cfbce86b3e303c8", func := "loop.example/g00897/laws.FnExactIsRing", spec := "fnExactIsRing", apart := false }
def FnExactIsRingSaid : Prop := fnExactIsRingRow.holds Try.pinned (OpenSpec.ofChange fnExactIsRingSpec)

/-- ITS FALSE NEIGHBOUR: 'it returns false'. Refute it at one input. -/
def fnExactIsRingWrong : ChangeSpec := { name := "fnExactIsRing", fn := fun _ => fun
  | [d1, d2] => { results := [.lit (.bool false)], args := [d1, d2] }
  | _ => none }
def FnExactIsRingWrongFalsely : Prop := fnExactIsRingRow.holds Try.pinned (OpenSpec.ofChange fnExactIsRingWrong)

/-- 'laws.FnExactRingNodes': WHATEVER THE INPUT: true; the input reads as it did. -/
def fnExactRingNodesSpec : ChangeSpec := { name := "fnExactRingNodes", fn := fun _ => fun
  | [d1, d2] => { results := [.lit (.bool true)], args := [d1, d2] }
  | _ => none }
def fnExactRingNodesRow : OpenClaim := { program := "yteilpiddonoikaa", sum := "cb81a566964f60b0796e863db503d2e7ac1454d8c09139b47cfbce86b3e303c8", func := "loop.example/g00897/laws.FnExactRingNodes", spec := "fnExactRingNodes", apart := false }
def FnExactRingNodesSaid : Prop := fnExactRingNodesRow.holds Try.pinned (OpenSpec.ofChange fnExactRingNodesSpec)

/-- ITS FALSE NEIGHBOUR: 'it returns false'. Refute it at one input. -/
def fnExactRingNodesWrong : ChangeSpec := { name := "fnExactRingNodes", fn := fun _ => fun
  | [d1, d2] => { results := [.lit (.bool false)], args := [d1, d2] }
  | _ => none }
def FnExactRingNodesWrongFalsely : Prop := fnExactRingNodesRow.holds Try.pinned (OpenSpec.ofChange fnExactRingNodesWrong)

/-- 'laws.FnExactRingEfficiency': WHATEVER THE INPUT: true; the input reads as it did. -/
def fnExactRingEfficiencySpec : ChangeSpec := { name := "fnExactRingEfficiency", fn := fun _ => fun
  | [d1, d2] => { results := [.lit (.bool true)], args := [d1, d2] }
  | _ => none }
def fnExactRingEfficiencyRow : OpenClaim := { program := "yteilpiddonoikaa", sum := "cb81a566964f60b0796e863db503d2e7ac1454d8c09139b47cfbce86b3e303c8", func := "loop.example/g00897/laws.FnExactRingEfficiency", spec := "fnExactRingEfficiency", recurses := true, apart := false }
def FnExactRingEfficiencySaid : Prop := fnExactRingEfficiencyRow.holds Try.pinned (OpenSpec.ofChange fnExactRingEfficiencySpec)

/-- ITS FALSE NEIGHBOUR: 'it returns false'. Refute it at one input. -/
def fnExactRingEfficiencyWrong : ChangeSpec := { name := "fnExactRingEfficiency", fn := fun _ => fun
  | [d1, d2] => { results := [.lit (.bool false)], args := [d1, d2] }
  | _ => none }
def FnExactRingEfficiencyWrongFalsely : Prop := fnExactRingEfficiencyRow.holds Try.pinned (OpenSpec.ofChange fnExactRingEfficiencyWrong)

/-- 'laws.FnExactRingCapacity': WHATEVER THE INPUT: true; the input reads as it did. -/
def fnExactRingCapacitySpec : ChangeSpec := { name := "fnExactRingCapacity", fn := fun _ => fun
  | [d1, d2, d3] => { results := [.lit (.bool true)], args := [d1, d2, d3] }
  | _ => none }
def fnExactRingCapacityRow : OpenClaim := { program := "yteilpiddonoikaa", sum := "cb81a566964f60b0796e863db503d2e7ac1454d8c09139b47cfbce86b3e303c8", func := "loop.example/g00897/laws.FnExactRingCapacity", spec := "fnExactRingCapacity", unfollowed := true, recurses := true, apart := false }
def FnExactRingCapacitySaid : Prop := fnExactRingCapacityRow.holds Try.pinned (OpenSpec.ofChange fnExactRingCapacitySpec)

/-- ITS FALSE NEIGHBOUR: 'it returns false'. Refute it at one input. -/
def fnExactRingCapacityWrong : ChangeSpec := { name := "fnExactRingCapacity", fn := fun _ => fun
  | [d1, d2, d3] => { results := [.lit (.bool false)], args := [d1, d2, d3] }
  | _ => none }
def FnExactRingCapacityWrongFalsely : Prop := fnExactRingCapacityRow.holds Try.pinned (OpenSpec.ofChange fnExactRingCapacityWrong)

/-- 'laws.FnExactProtectedFibers': WHATEVER THE INPUT: true; the input reads as it did. -/
def fnExactProtectedFibersSpec : ChangeSpec := { name := "fnExactProtectedFibers", fn := fun _ => fun
  | [d1, d2] => { results := [.lit (.bool true)], args := [d1, d2] }
  | _ => none }
def fnExactProtectedFibersRow : OpenClaim := { program := "yteilpiddonoikaa", sum := "cb81a566964f60b0796e863db503d2e7ac1454d8c09139b47cfbce86b3e303c8", func := "loop.example/g00897/laws.FnExactProtectedFibers", spec := "fnExactProtectedFibers", recurses := true, apart := false }
def FnExactProtectedFibersSaid : Prop := fnExactProtectedFibersRow.holds Try.pinned (OpenSpec.ofChange fnExactProtectedFibersSpec)

/-- ITS FALSE NEIGHBOUR: 'it returns false'. Refute it at one input. -/
def fnExactProtectedFibersWrong : ChangeSpec := { name := "fnExactProtectedFibers", fn := fun _ => fun
  | [d1, d2] => { results := [.lit (.bool false)], args := [d1, d2] }
  | _ => none }
def FnExactProtectedFibersWrongFalsely : Prop := fnExactProtectedFibersRow.holds Try.pinned (OpenSpec.ofChange fnExactProtectedFibersWrong)

/-- 'laws.FnExactAllRings': WHATEVER THE INPUT: true; the input reads as it did. -/
def fnExactAllRingsSpec : ChangeSpec := { name := "fnExactAllRings", fn := fun _ => fun
  | [d] => { results := [.lit (.bool true)], args := [d] }
  | _ => none }
def fnExactAllRingsRow : OpenClaim := { program := "yteilpiddonoikaa", sum := "cb81a566964f60b0796e863db503d2e7ac1454d8c09139b47cfbce86b3e303c8", func := "loop.example/g00897/laws.FnExactAllRings", spec := "fnExactAllRings", unfollowed := true, recurses := true, apart := false }
def FnExactAllRingsSaid : Prop := fnExactAllRingsRow.holds Try.pinned (OpenSpec.ofChange fnExactAllRingsSpec)

/-- ITS FALSE NEIGHBOUR: 'it returns false'. Refute it at one input. -/
def fnExactAllRingsWrong : ChangeSpec := { name := "fnExactAllRings", fn := fun _ => fun
  | [d] => { results := [.lit (.bool false)], args := [d] }
  | _ => none }
def FnExactAllRingsWrongFalsely : Prop := fnExactAllRingsRow.holds Try.pinned (OpenSpec.ofChange fnExactAllRingsWrong)

/-- 'laws.FnExactSwitchedRoutes': WHATEVER THE INPUT: true; the input reads as it did. -/
def fnExactSwitchedRoutesSpec : ChangeSpec := { name := "fnExactSwitchedRoutes", fn := fun _ => fun
  | [d1, d2, d3] => { results := [.lit (.bool true)], args := [d1, d2, d3] }
  | _ => none }
def fnExactSwitchedRoutesRow : OpenClaim := { program := "yteilpiddonoikaa", sum := "cb81a566964f60b0796e863db503d2e7ac1454d8c09139b47cfbce86b3e303c8", func := "loop.example/g00897/laws.FnExactSwitchedRoutes", spec := "fnExactSwitchedRoutes", unfollowed := true, recurses := true, apart := false }
def FnExactSwitchedRoutesSaid : Prop := fnExactSwitchedRoutesRow.holds Try.pinned (OpenSpec.ofChange fnExactSwitchedRoutesSpec)

/-- ITS FALSE NEIGHBOUR: 'it returns false'. Refute it at one input. -/
def fnExactSwitchedRoutesWrong : ChangeSpec := { name := "fnExactSwitchedRoutes", fn := fun _ => fun
  | [d1, d2, d3] => { results := [.lit (.bool false)], args := [d1, d2, d3] }
  | _ => none }
def FnExactSwitchedRoutesWrongFalsely : Prop := fnExactSwitchedRoutesRow.holds Try.pinned (OpenSpec.ofChange fnExactSwitchedRoutesWrong)

/- THE SECOND FORM. 'bulk': how many values and letters a reading holds, each counted each time it is reached (what is shared counts as often as it is met; a slice's spare places count too). A statement '..UptoSaid' is the law's where the arguments, and the package variables that the reading takes, are together of bulk at most 1048576: NARROWER than '..Said'. Prove '..Said' where nothing that the law and all that it calls make is longer than what came in: it says more and counts as full. Else prove '..UptoSaid'. A law counts once. -/
mutual
def uptoBulk {H : Type} : DataW H → Nat
  | .lit (.string bytes) => bytes.length + 1
  | .lit _ => 1
  | .nil => 1
  | .ptr d => uptoBulk d + 1
  | .slice elems spare => uptoBulkAll elems + uptoBulkAll spare + 1
  | .agg parts => uptoBulkAll parts + 1
  | .iface _ d => uptoBulk d + 1
  | .map entries => uptoBulkEntries entries + 1
  | .held _ => 1
def uptoBulkAll {H : Type} : List (DataW H) → Nat
  | [] => 0
  | d :: r => uptoBulk d + uptoBulkAll r
def uptoBulkEntries {H : Type} : List (Lit × DataW H) → Nat
  | [] => 0
  | x :: r => uptoBulkEntry x + uptoBulkEntries r
def uptoBulkEntry {H : Type} : Lit × DataW H → Nat
  | (.string bytes, d) => bytes.length + uptoBulk d + 1
  | (_, d) => uptoBulk d + 1
 end
def uptoSmall : (H : Type) → List (DataW H) → Bool := fun _ ds => decide (uptoBulkAll ds ≤ 1048576)
def OpenSpec.upto (s : _root_.Go.ChangeSpec) : _root_.Go.OpenSpec := { _root_.Go.OpenSpec.ofChange s with cond := some uptoSmall }

/-- 'laws.FnExactIsRing', WHERE WHAT IT READS IS OF BULK AT MOST 1048576: true; the input reads as it did. -/
def fnExactIsRingUptoRow : OpenClaim := { program := "yteilpiddonoikaa", sum := "cb81a566964f60b0796e863db503d2e7ac1454d8c09139b47cfbce86b3e303c8", func := "loop.example/g00897/laws.FnExactIsRing", spec := "fnExactIsRing", apart := false, narrowed := true }
def FnExactIsRingUptoSaid : Prop := fnExactIsRingUptoRow.holds Try.pinned (OpenSpec.upto fnExactIsRingSpec)

/-- 'laws.FnExactRingNodes', WHERE WHAT IT READS IS OF BULK AT MOST 1048576: true; the input reads as it did. -/
def fnExactRingNodesUptoRow : OpenClaim := { program := "yteilpiddonoikaa", sum := "cb81a566964f60b0796e863db503d2e7ac1454d8c09139b47cfbce86b3e303c8", func := "loop.example/g00897/laws.FnExactRingNodes", spec := "fnExactRingNodes", apart := false, narrowed := true }
def FnExactRingNodesUptoSaid : Prop := fnExactRingNodesUptoRow.holds Try.pinned (OpenSpec.upto fnExactRingNodesSpec)

/-- 'laws.FnExactRingEfficiency', WHERE WHAT IT READS IS OF BULK AT MOST 1048576: true; the input reads as it did. -/
def fnExactRingEfficiencyUptoRow : OpenClaim := { program := "yteilpiddonoikaa", sum := "cb81a566964f60b0796e863db503d2e7ac1454d8c09139b47cfbce86b3e303c8", func := "loop.example/g00897/laws.FnExactRingEfficiency", spec := "fnExactRingEfficiency", recurses := true, apart := false, narrowed := true }
def FnExactRingEfficiencyUptoSaid : Prop := fnExactRingEfficiencyUptoRow.holds Try.pinned (OpenSpec.upto fnExactRingEfficiencySpec)

/-- 'laws.FnExactRingCapacity', WHERE WHAT IT READS IS OF BULK AT MOST 1048576: true; the input reads as it did. -/
def fnExactRingCapacityUptoRow : OpenClaim := { program := "yteilpiddonoikaa", sum := "cb81a566964f60b0796e863db503d2e7ac1454d8c09139b47cfbce86b3e303c8", func := "loop.example/g00897/laws.FnExactRingCapacity", spec := "fnExactRingCapacity", unfollowed := true, recurses := true, apart := false, narrowed := true }
def FnExactRingCapacityUptoSaid : Prop := fnExactRingCapacityUptoRow.holds Try.pinned (OpenSpec.upto fnExactRingCapacitySpec)

/-- 'laws.FnExactProtectedFibers', WHERE WHAT IT READS IS OF BULK AT MOST 1048576: true; the input reads as it did. -/
def fnExactProtectedFibersUptoRow : OpenClaim := { program := "yteilpiddonoikaa", sum := "cb81a566964f60b0796e863db503d2e7ac1454d8c09139b47cfbce86b3e303c8", func := "loop.example/g00897/laws.FnExactProtectedFibers", spec := "fnExactProtectedFibers", recurses := true, apart := false, narrowed := true }
def FnExactProtectedFibersUptoSaid : Prop := fnExactProtectedFibersUptoRow.holds Try.pinned (OpenSpec.upto fnExactProtectedFibersSpec)

/-- 'laws.FnExactAllRings', WHERE WHAT IT READS IS OF BULK AT MOST 1048576: true; the input reads as it did. -/
def fnExactAllRingsUptoRow : OpenClaim := { program := "yteilpiddonoikaa", sum := "cb81a566964f60b0796e863db503d2e7ac1454d8c09139b47cfbce86b3e303c8", func := "loop.example/g00897/laws.FnExactAllRings", spec := "fnExactAllRings", unfollowed := true, recurses := true, apart := false, narrowed := true }
def FnExactAllRingsUptoSaid : Prop := fnExactAllRingsUptoRow.holds Try.pinned (OpenSpec.upto fnExactAllRingsSpec)

/-- 'laws.FnExactSwitchedRoutes', WHERE WHAT IT READS IS OF BULK AT MOST 1048576: true; the input reads as it did. -/
def fnExactSwitchedRoutesUptoRow : OpenClaim := { program := "yteilpiddonoikaa", sum := "cb81a566964f60b0796e863db503d2e7ac1454d8c09139b47cfbce86b3e303c8", func := "loop.example/g00897/laws.FnExactSwitchedRoutes", spec := "fnExactSwitchedRoutes", unfollowed := true, recurses := true, apart := false, narrowed := true }
def FnExactSwitchedRoutesUptoSaid : Prop := fnExactSwitchedRoutesUptoRow.holds Try.pinned (OpenSpec.upto fnExactSwitchedRoutesSpec)

end Rows
end Go.Proofs.Yteilpiddonoikaa
