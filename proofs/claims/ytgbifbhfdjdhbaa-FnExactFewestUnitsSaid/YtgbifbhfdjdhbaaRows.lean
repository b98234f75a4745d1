/-
  No cell of these rows narrows 'for every input' (looked for: loops, veiled, ifaces, maps, wideKeys, modest, calm, conditions, laid).
  DERIVED. THE GIVEN ROWS OF THIS SEAT. 11 by the template 'for every input the law returns true; each argument reads behind the call as it read before'; 0 by the template 'total and deterministic' (their statements: YtgbifbhfdjdhbaaTotals.lean).
  GIVEN WITH THE SEED: the statements are not yours to turn. If you find one false, say at which input.
  Laid BY PROGRAM, IN A SANDBOX (cutbox-rows.mjs): the forced cells as the released guide's own fill.sh prints them over the translation 3de2058e08692408… (all of the seat's roots in one cut). By AI agents, Wed Nov 11 2026. No macro, syntax, notation, axiom, sorry.
-/
import Derived.Test.YtgbifbhfdjdhbaaChecked
import GoSem.Claim
import GoSem.ClaimJoined
import GoSem.ClaimMapViews
import Derived.JoinedTies
import Derived.KernelRfl
namespace Go.Proofs.Ytgbifbhfdjdhbaa
/- THE CELL 'sum', in the pinned program and in every row, IS THE sha256 OF THE DUMP (.gsa) THAT YtgbifbhfdjdhbaaProg.lean LOADS. Nothing in Lean hashes anything: it is a label: what it is worth is what the hold of that sum in a sandbox is worth. -/
noncomputable def Try.pinned : Pinned := { name := "ytgbifbhfdjdhbaa", sum := "3de2058e08692408793ac8f9d5fadab815069b3ac710f1362b1bd9579cfad3b6", checked := Try.checked }
namespace Rows
def none {H : Type} : Left H := { results := [], args := [] }

/-- 'laws.FnExactIsValidTributaries': WHATEVER THE INPUT: true; the input reads as it did. -/
def fnExactIsValidTributariesSpec : ChangeSpec := { name := "fnExactIsValidTributaries", fn := fun _ => fun
  | [d1, d2] => { results := [.lit (.bool true)], args := [d1, d2] }
  | _ => none }
def fnExactIsValidTributariesRow : OpenClaim := { program := "ytgbifbhfdjdhbaa", sum := "3de2058e08692408793ac8f9d5fadab815069b3ac710f1362b1bd9579cfad3b6", func := "loop.example/g00897/laws.FnExactIsValidTributaries", spec := "fnExactIsValidTributaries", unfollowed := true, recurses := true, apart := false }
def FnExactIsValidTributariesSaid : Prop := fnExactIsValidTributariesRow.holds Try.pinned (OpenSpec.ofChange fnExactIsValidTributariesSpec)

/-- ITS FALSE NEIGHBOUR: 'it returns false'. Refute it at one input. -/
def fnExactIsValidTributariesWrong : ChangeSpec := { name := "fnExactIsValidTributaries", fn := fun _ => fun
  | [d1, d2] => { results := [.lit (.bool false)], args := [d1, d2] }
  | _ => none }
def FnExactIsValidTributariesWrongFalsely : Prop := fnExactIsValidTributariesRow.holds Try.pinned (OpenSpec.ofChange fnExactIsValidTributariesWrong)

/-- 'laws.FnExactPackInOrder': WHATEVER THE INPUT: true; the input reads as it did. -/
def fnExactPackInOrderSpec : ChangeSpec := { name := "fnExactPackInOrder", fn := fun _ => fun
  | [d1, d2] => { results := [.lit (.bool true)], args := [d1, d2] }
  | _ => none }
def fnExactPackInOrderRow : OpenClaim := { program := "ytgbifbhfdjdhbaa", sum := "3de2058e08692408793ac8f9d5fadab815069b3ac710f1362b1bd9579cfad3b6", func := "loop.example/g00897/laws.FnExactPackInOrder", spec := "fnExactPackInOrder", unfollowed := true, recurses := true, apart := false }
def FnExactPackInOrderSaid : Prop := fnExactPackInOrderRow.holds Try.pinned (OpenSpec.ofChange fnExactPackInOrderSpec)

/-- ITS FALSE NEIGHBOUR: 'it returns false'. Refute it at one input. -/
def fnExactPackInOrderWrong : ChangeSpec := { name := "fnExactPackInOrder", fn := fun _ => fun
  | [d1, d2] => { results := [.lit (.bool false)], args := [d1, d2] }
  | _ => none }
def FnExactPackInOrderWrongFalsely : Prop := fnExactPackInOrderRow.holds Try.pinned (OpenSpec.ofChange fnExactPackInOrderWrong)

/-- 'laws.FnExactRouteTributary': WHATEVER THE INPUT: true; the input reads as it did. -/
def fnExactRouteTributarySpec : ChangeSpec := { name := "fnExactRouteTributary", fn := fun _ => fun
  | [d1, d2, d3, d4] => { results := [.lit (.bool true)], args := [d1, d2, d3, d4] }
  | _ => none }
def fnExactRouteTributaryRow : OpenClaim := { program := "ytgbifbhfdjdhbaa", sum := "3de2058e08692408793ac8f9d5fadab815069b3ac710f1362b1bd9579cfad3b6", func := "loop.example/g00897/laws.FnExactRouteTributary", spec := "fnExactRouteTributary", unfollowed := true, recurses := true, apart := false }
def FnExactRouteTributarySaid : Prop := fnExactRouteTributaryRow.holds Try.pinned (OpenSpec.ofChange fnExactRouteTributarySpec)

/-- ITS FALSE NEIGHBOUR: 'it returns false'. Refute it at one input. -/
def fnExactRouteTributaryWrong : ChangeSpec := { name := "fnExactRouteTributary", fn := fun _ => fun
  | [d1, d2, d3, d4] => { results := [.lit (.bool false)], args := [d1, d2, d3, d4] }
  | _ => none }
def FnExactRouteTributaryWrongFalsely : Prop := fnExactRouteTributaryRow.holds Try.pinned (OpenSpec.ofChange fnExactRouteTributaryWrong)

/-- 'laws.FnExactBlockedRate': WHATEVER THE INPUT: true; the input reads as it did. -/
def fnExactBlockedRateSpec : ChangeSpec := { name := "fnExactBlockedRate", fn := fun _ => fun
  | [d1, d2, d3] => { results := [.lit (.bool true)], args := [d1, d2, d3] }
  | _ => none }
def fnExactBlockedRateRow : OpenClaim := { program := "ytgbifbhfdjdhbaa", sum := "3de2058e08692408793ac8f9d5fadab815069b3ac710f1362b1bd9579cfad3b6", func := "loop.example/g00897/laws.FnExactBlockedRate", spec := "fnExactBlockedRate", unfollowed := true, recurses := true, apart := false }
def FnExactBlockedRateSaid : Prop := fnExactBlockedRateRow.holds Try.pinned (OpenSpec.ofChange fnExactBlockedRateSpec)

/-- ITS FALSE NEIGHBOUR: 'it returns false'. Refute it at one input. -/
def fnExactBlockedRateWrong : ChangeSpec := { name := "fnExactBlockedRate", fn := fun _ => fun
  | [d1, d2, d3] => { results := [.lit (.bool false)], args := [d1, d2, d3] }
  | _ => none }
def FnExactBlockedRateWrongFalsely : Prop := fnExactBlockedRateRow.holds Try.pinned (OpenSpec.ofChange fnExactBlockedRateWrong)

/-- 'laws.FnExactPackDescending': WHATEVER THE INPUT: true; the input reads as it did. -/
def fnExactPackDescendingSpec : ChangeSpec := { name := "fnExactPackDescending", fn := fun _ => fun
  | [d1, d2] => { results := [.lit (.bool true)], args := [d1, d2] }
  | _ => none }
def fnExactPackDescendingRow : OpenClaim := { program := "ytgbifbhfdjdhbaa", sum := "3de2058e08692408793ac8f9d5fadab815069b3ac710f1362b1bd9579cfad3b6", func := "loop.example/g00897/laws.FnExactPackDescending", spec := "fnExactPackDescending", unfollowed := true, recurses := true, apart := false }
def FnExactPackDescendingSaid : Prop := fnExactPackDescendingRow.holds Try.pinned (OpenSpec.ofChange fnExactPackDescendingSpec)

/-- ITS FALSE NEIGHBOUR: 'it returns false'. Refute it at one input. -/
def fnExactPackDescendingWrong : ChangeSpec := { name := "fnExactPackDescending", fn := fun _ => fun
  | [d1, d2] => { results := [.lit (.bool false)], args := [d1, d2] }
  | _ => none }
def FnExactPackDescendingWrongFalsely : Prop := fnExactPackDescendingRow.holds Try.pinned (OpenSpec.ofChange fnExactPackDescendingWrong)

/-- 'laws.FnExactLinkLoads': WHATEVER THE INPUT: true; the input reads as it did. -/
def fnExactLinkLoadsSpec : ChangeSpec := { name := "fnExactLinkLoads", fn := fun _ => fun
  | [d1, d2, d3, d4] => { results := [.lit (.bool true)], args := [d1, d2, d3, d4] }
  | _ => none }
def fnExactLinkLoadsRow : OpenClaim := { program := "ytgbifbhfdjdhbaa", sum := "3de2058e08692408793ac8f9d5fadab815069b3ac710f1362b1bd9579cfad3b6", func := "loop.example/g00897/laws.FnExactLinkLoads", spec := "fnExactLinkLoads", unfollowed := true, recurses := true, apart := false }
def FnExactLinkLoadsSaid : Prop := fnExactLinkLoadsRow.holds Try.pinned (OpenSpec.ofChange fnExactLinkLoadsSpec)

/-- ITS FALSE NEIGHBOUR: 'it returns false'. Refute it at one input. -/
def fnExactLinkLoadsWrong : ChangeSpec := { name := "fnExactLinkLoads", fn := fun _ => fun
  | [d1, d2, d3, d4] => { results := [.lit (.bool false)], args := [d1, d2, d3, d4] }
  | _ => none }
def FnExactLinkLoadsWrongFalsely : Prop := fnExactLinkLoadsRow.holds Try.pinned (OpenSpec.ofChange fnExactLinkLoadsWrong)

/-- 'laws.FnGrooming': WHATEVER THE INPUT: true; the input reads as it did. -/
def fnGroomingSpec : ChangeSpec := { name := "fnGrooming", fn := fun _ => fun
  | [d] => { results := [.lit (.bool true)], args := [d] }
  | _ => none }
def fnGroomingRow : OpenClaim := { program := "ytgbifbhfdjdhbaa", sum := "3de2058e08692408793ac8f9d5fadab815069b3ac710f1362b1bd9579cfad3b6", func := "loop.example/g00897/laws.FnGrooming", spec := "fnGrooming", unfollowed := true, recurses := true, apart := false }
def FnGroomingSaid : Prop := fnGroomingRow.holds Try.pinned (OpenSpec.ofChange fnGroomingSpec)

/-- ITS FALSE NEIGHBOUR: 'it returns false'. Refute it at one input. -/
def fnGroomingWrong : ChangeSpec := { name := "fnGrooming", fn := fun _ => fun
  | [d] => { results := [.lit (.bool false)], args := [d] }
  | _ => none }
def FnGroomingWrongFalsely : Prop := fnGroomingRow.holds Try.pinned (OpenSpec.ofChange fnGroomingWrong)

/-- 'laws.FnExactGroomAll': WHATEVER THE INPUT: true; the input reads as it did. -/
def fnExactGroomAllSpec : ChangeSpec := { name := "fnExactGroomAll", fn := fun _ => fun
  | [d1, d2, d3] => { results := [.lit (.bool true)], args := [d1, d2, d3] }
  | _ => none }
def fnExactGroomAllRow : OpenClaim := { program := "ytgbifbhfdjdhbaa", sum := "3de2058e08692408793ac8f9d5fadab815069b3ac710f1362b1bd9579cfad3b6", func := "loop.example/g00897/laws.FnExactGroomAll", spec := "fnExactGroomAll", unfollowed := true, recurses := true, apart := false }
def FnExactGroomAllSaid : Prop := fnExactGroomAllRow.holds Try.pinned (OpenSpec.ofChange fnExactGroomAllSpec)

/-- ITS FALSE NEIGHBOUR: 'it returns false'. Refute it at one input. -/
def fnExactGroomAllWrong : ChangeSpec := { name := "fnExactGroomAll", fn := fun _ => fun
  | [d1, d2, d3] => { results := [.lit (.bool false)], args := [d1, d2, d3] }
  | _ => none }
def FnExactGroomAllWrongFalsely : Prop := fnExactGroomAllRow.holds Try.pinned (OpenSpec.ofChange fnExactGroomAllWrong)

/-- 'laws.FnDirect': WHATEVER THE INPUT: true; the input reads as it did. -/
def fnDirectSpec : ChangeSpec := { name := "fnDirect", fn := fun _ => fun
  | [d] => { results := [.lit (.bool true)], args := [d] }
  | _ => none }
def fnDirectRow : OpenClaim := { program := "ytgbifbhfdjdhbaa", sum := "3de2058e08692408793ac8f9d5fadab815069b3ac710f1362b1bd9579cfad3b6", func := "loop.example/g00897/laws.FnDirect", spec := "fnDirect", unfollowed := true, recurses := true, apart := false }
def FnDirectSaid : Prop := fnDirectRow.holds Try.pinned (OpenSpec.ofChange fnDirectSpec)

/-- ITS FALSE NEIGHBOUR: 'it returns false'. Refute it at one input. -/
def fnDirectWrong : ChangeSpec := { name := "fnDirect", fn := fun _ => fun
  | [d] => { results := [.lit (.bool false)], args := [d] }
  | _ => none }
def FnDirectWrongFalsely : Prop := fnDirectRow.holds Try.pinned (OpenSpec.ofChange fnDirectWrong)

/-- 'laws.FnExactGroomDirect': WHATEVER THE INPUT: true; the input reads as it did. -/
def fnExactGroomDirectSpec : ChangeSpec := { name := "fnExactGroomDirect", fn := fun _ => fun
  | [d1, d2, d3] => { results := [.lit (.bool true)], args := [d1, d2, d3] }
  | _ => none }
def fnExactGroomDirectRow : OpenClaim := { program := "ytgbifbhfdjdhbaa", sum := "3de2058e08692408793ac8f9d5fadab815069b3ac710f1362b1bd9579cfad3b6", func := "loop.example/g00897/laws.FnExactGroomDirect", spec := "fnExactGroomDirect", unfollowed := true, recurses := true, apart := false }
def FnExactGroomDirectSaid : Prop := fnExactGroomDirectRow.holds Try.pinned (OpenSpec.ofChange fnExactGroomDirectSpec)

/-- ITS FALSE NEIGHBOUR: 'it returns false'. Refute it at one input. -/
def fnExactGroomDirectWrong : ChangeSpec := { name := "fnExactGroomDirect", fn := fun _ => fun
  | [d1, d2, d3] => { results := [.lit (.bool false)], args := [d1, d2, d3] }
  | _ => none }
def FnExactGroomDirectWrongFalsely : Prop := fnExactGroomDirectRow.holds Try.pinned (OpenSpec.ofChange fnExactGroomDirectWrong)

/-- 'laws.FnExactFewestUnits': WHATEVER THE INPUT: true; the input reads as it did. -/
def fnExactFewestUnitsSpec : ChangeSpec := { name := "fnExactFewestUnits", fn := fun _ => fun
  | [d1, d2] => { results := [.lit (.bool true)], args := [d1, d2] }
  | _ => none }
def fnExactFewestUnitsRow : OpenClaim := { program := "ytgbifbhfdjdhbaa", sum := "3de2058e08692408793ac8f9d5fadab815069b3ac710f1362b1bd9579cfad3b6", func := "loop.example/g00897/laws.FnExactFewestUnits", spec := "fnExactFewestUnits", unfollowed := true, recurses := true, apart := false }
def FnExactFewestUnitsSaid : Prop := fnExactFewestUnitsRow.holds Try.pinned (OpenSpec.ofChange fnExactFewestUnitsSpec)

/-- ITS FALSE NEIGHBOUR: 'it returns false'. Refute it at one input. -/
def fnExactFewestUnitsWrong : ChangeSpec := { name := "fnExactFewestUnits", fn := fun _ => fun
  | [d1, d2] => { results := [.lit (.bool false)], args := [d1, d2] }
  | _ => none }
def FnExactFewestUnitsWrongFalsely : Prop := fnExactFewestUnitsRow.holds Try.pinned (OpenSpec.ofChange fnExactFewestUnitsWrong)

/- THE SECOND FORM. 'bulk': how many values and letters a reading holds, each counted each time it is reached (what is shared counts as often as it is met; a slice's spare places count too). A statement '..UptoSaid' is the law's where the arguments, and the package variables that the reading takes, are together of bulk at most 1048576: NARROWER than '..Said'. Prove '..Said' where nothing that the law and all that it calls make is longer than what came in: it says more and counts as full. Else prove '..UptoSaid'. A law counts once. -/
mutual
def uptoBulk {H : Type} : DataW H → Nat
  | .lit (.string bytes) => bytes.length + 1
  | .lit _ => 1
  | .nil => 1
  | .ptr d => uptoBulk d + 1
  | .slice elems spare => uptoBulkAll elems + uptoBulkAll spare + 1
  | .agg parts => uptoBulkAll parts + 1
  | .iface _ d => uptoBulk d + 1
  | .map entries => uptoBulkEntries entries + 1
  | .held _ => 1
def uptoBulkAll {H : Type} : List (DataW H) → Nat
  | [] => 0
  | d :: r => uptoBulk d + uptoBulkAll r
def uptoBulkEntries {H : Type} : List (Lit × DataW H) → Nat
  | [] => 0
  | x :: r => uptoBulkEntry x + uptoBulkEntries r
def uptoBulkEntry {H : Type} : Lit × DataW H → Nat
  | (.string bytes, d) => bytes.length + uptoBulk d + 1
  | (_, d) => uptoBulk d + 1
 end
def uptoSmall : (H : Type) → List (DataW H) → Bool := fun _ ds => decide (uptoBulkAll ds ≤ 1048576)
def OpenSpec.upto (s : _root_.Go.ChangeSpec) : _root_.Go.OpenSpec := { _root_.Go.OpenSpec.ofChange s with cond := some uptoSmall }

/-- 'laws.FnExactIsValidTributaries', WHERE WHAT IT READS IS OF BULK AT MOST 1048576: true; the input reads as it did. -/
def fnExactIsValidTributariesUptoRow : OpenClaim := { program := "ytgbifbhfdjdhbaa", sum := "3de2058e08692408793ac8f9d5fadab815069b3ac710f1362b1bd9579cfad3b6", func := "loop.example/g00897/laws.FnExactIsValidTributaries", spec := "fnExactIsValidTributaries", unfollowed := true, recurses := true, apart := false, narrowed := true }
def FnExactIsValidTributariesUptoSaid : Prop := fnExactIsValidTributariesUptoRow.holds Try.pinned (OpenSpec.upto fnExactIsValidTributariesSpec)

/-- 'laws.FnExactPackInOrder', WHERE WHAT IT READS IS OF BULK AT MOST 1048576: true; the input reads as it did. -/
def fnExactPackInOrderUptoRow : OpenClaim := { program := "ytgbifbhfdjdhbaa", sum := "3de2058e08692408793ac8f9d5fadab815069b3ac710f1362b1bd9579cfad3b6", func := "loop.example/g00897/laws.FnExactPackInOrder", spec := "fnExactPackInOrder", unfollowed := true, recurses := true, apart := false, narrowed := true }
def FnExactPackInOrderUptoSaid : Prop := fnExactPackInOrderUptoRow.holds Try.pinned (OpenSpec.upto fnExactPackInOrderSpec)

/-- 'laws.FnExactRouteTributary', WHERE WHAT IT READS IS OF BULK AT MOST 1048576: true; the input reads as it did. -/
def fnExactRouteTributaryUptoRow : OpenClaim := { program := "ytgbifbhfdjdhbaa", sum := "3de2058e08692408793ac8f9d5fadab815069b3ac710f1362b1bd9579cfad3b6", func := "loop.example/g00897/laws.FnExactRouteTributary", spec := "fnExactRouteTributary", unfollowed := true, recurses := true, apart := false, narrowed := true }
def FnExactRouteTributaryUptoSaid : Prop := fnExactRouteTributaryUptoRow.holds Try.pinned (OpenSpec.upto fnExactRouteTributarySpec)

/-- 'laws.FnExactBlockedRate', WHERE WHAT IT READS IS OF BULK AT MOST 1048576: true; the input reads as it did. -/
def fnExactBlockedRateUptoRow : OpenClaim := { program := "ytgbifbhfdjdhbaa", sum := "3de2058e08692408793ac8f9d5fadab815069b3ac710f1362b1bd9579cfad3b6", func := "loop.example/g00897/laws.FnExactBlockedRate", spec := "fnExactBlockedRate", unfollowed := true, recurses := true, apart := false, narrowed := true }
def FnExactBlockedRateUptoSaid : Prop := fnExactBlockedRateUptoRow.holds Try.pinned (OpenSpec.upto fnExactBlockedRateSpec)

/-- 'laws.FnExactPackDescending', WHERE WHAT IT READS IS OF BULK AT MOST 1048576: true; the input reads as it did. -/
def fnExactPackDescendingUptoRow : OpenClaim := { program := "ytgbifbhfdjdhbaa", sum := "3de2058e08692408793ac8f9d5fadab815069b3ac710f1362b1bd9579cfad3b6", func := "loop.example/g00897/laws.FnExactPackDescending", spec := "fnExactPackDescending", unfollowed := true, recurses := true, apart := false, narrowed := true }
def FnExactPackDescendingUptoSaid : Prop := fnExactPackDescendingUptoRow.holds Try.pinned (OpenSpec.upto fnExactPackDescendingSpec)

/-- 'laws.FnExactLinkLoads', WHERE WHAT IT READS IS OF BULK AT MOST 1048576: true; the input reads as it did. -/
def fnExactLinkLoadsUptoRow : OpenClaim := { program := "ytgbifbhfdjdhbaa", sum := "3de2058e08692408793ac8f9d5fadab815069b3ac710f1362b1bd9579cfad3b6", func := "loop.example/g00897/laws.FnExactLinkLoads", spec := "fnExactLinkLoads", unfollowed := true, recurses := true, apart := false, narrowed := true }
def FnExactLinkLoadsUptoSaid : Prop := fnExactLinkLoadsUptoRow.holds Try.pinned (OpenSpec.upto fnExactLinkLoadsSpec)

/-- 'laws.FnGrooming', WHERE WHAT IT READS IS OF BULK AT MOST 1048576: true; the input reads as it did. -/
def fnGroomingUptoRow : OpenClaim := { program := "ytgbifbhfdjdhbaa", sum := "3de2058e08692408793ac8f9d5fadab815069b3ac710f1362b1bd9579cfad3b6", func := "loop.example/g00897/laws.FnGrooming", spec := "fnGrooming", unfollowed := true, recurses := true, apart := false, narrowed := true }
def FnGroomingUptoSaid : Prop := fnGroomingUptoRow.holds Try.pinned (OpenSpec.upto fnGroomingSpec)

/-- 'laws.FnExactGroomAll', WHERE WHAT IT READS IS OF BULK AT MOST 1048576: true; the input reads as it did. -/
def fnExactGroomAllUptoRow : OpenClaim := { program := "ytgbifbhfdjdhbaa", sum := "3de2058e08692408793ac8f9d5fadab815069b3ac710f1362b1bd9579cfad3b6", func := "loop.example/g00897/laws.FnExactGroomAll", spec := "fnExactGroomAll", unfollowed := true, recurses := true, apart := false, narrowed := true }
def FnExactGroomAllUptoSaid : Prop := fnExactGroomAllUptoRow.holds Try.pinned (OpenSpec.upto fnExactGroomAllSpec)

/-- 'laws.FnDirect', WHERE WHAT IT READS IS OF BULK AT MOST 1048576: true; the input reads as it did. -/
def fnDirectUptoRow : OpenClaim := { program := "ytgbifbhfdjdhbaa", sum := "3de2058e08692408793ac8f9d5fadab815069b3ac710f1362b1bd9579cfad3b6", func := "loop.example/g00897/laws.FnDirect", spec := "fnDirect", unfollowed := true, recurses := true, apart := false, narrowed := true }
def FnDirectUptoSaid : Prop := fnDirectUptoRow.holds Try.pinned (OpenSpec.upto fnDirectSpec)

/-- 'laws.FnExactGroomDirect', WHERE WHAT IT READS IS OF BULK AT MOST 1048576: true; the input reads as it did. -/
def fnExactGroomDirectUptoRow : OpenClaim := { program := "ytgbifbhfdjdhbaa", sum := "3de2058e08692408793ac8f9d5fadab815069b3ac710f1362b1bd9579cfad3b6", func := "loop.example/g00897/laws.FnExactGroomDirect", spec := "fnExactGroomDirect", unfollowed := true, recurses := true, apart := false, narrowed := true }
def FnExactGroomDirectUptoSaid : Prop := fnExactGroomDirectUptoRow.holds Try.pinned (OpenSpec.upto fnExactGroomDirectSpec)

/-- 'laws.FnExactFewestUnits', WHERE WHAT IT READS IS OF BULK AT MOST 1048576: true; the input reads as it did. -/
def fnExactFewestUnitsUptoRow : OpenClaim := { program := "ytgbifbhfdjdhbaa", sum := "3de2058e08692408793ac8f9d5fadab815069b3ac710f1362b1bd9579cfad3b6", func := "loop.example/g00897/laws.FnExactFewestUnits", spec := "fnExactFewestUnits", unfollowed := true, recurses := true, apart := false, narrowed := true }
def FnExactFewestUnitsUptoSaid : Prop := fnExactFewestUnitsUptoRow.holds Try.pinned (OpenSpec.upto fnExactFewestUnitsSpec)

end Rows
end Go.Proofs.Ytgbifbhfdjdhbaa
