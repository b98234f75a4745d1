/-
  No cell of these rows narrows 'for every input' (looked for: loops, veiled, ifaces, maps, wideKeys, modest, calm, conditions, laid).
  DERIVED. THE GIVEN ROWS OF THIS SEAT. 7 by the template 'for every input the law returns true; each argument reads behind the call as it read before'; 0 by the template 'total and deterministic' (their statements: YtfmhphgpijjejaaGreatTotals.lean).
  GIVEN WITH THE SEED: the statements are not yours to turn. If you find one false, say at which input.
  Laid BY PROGRAM, IN A SANDBOX (cutbox-rows.mjs): the forced cells as the released guide's own fill.sh prints them over the translation 2588a271bafb2c78… (all of the seat's roots in one cut). By AI agents, Wed Nov 11 2026. No macro, syntax, notation, axiom, sorry.
-/
import Derived.Test.YtfmhphgpijjejaaGreatChecked
import GoSem.Claim
import GoSem.ClaimJoined
import GoSem.ClaimMapViews
import Derived.JoinedTies
import Derived.KernelRfl
namespace Go.Proofs.YtfmhphgpijjejaaGreat
/- THE CELL 'sum', in the pinned program and in every row, IS THE sha256 OF THE DUMP (.gsa) THAT YtfmhphgpijjejaaGreatProg.lean LOADS. Nothing in Lean hashes anything: it is a label: what it is worth is what the hold of that sum in a sandbox is worth. -/
noncomputable def Tryz.pinned : Pinned := { name := "ytfmhphgpijjejaagreat", sum := "2588a271bafb2c787d6d05933827e0421731ee7fb53ccba08093ef192622f9c1", checked := Tryz.checked }
namespace Rows
def none {H : Type} : Left H := { results := [], args := [] }

/-- 'laws.FnSurvival': WHATEVER THE INPUT: true; the input reads as it did. -/
def fnSurvivalSpec : ChangeSpec := { name := "fnSurvival", fn := fun _ => fun
  | [d] => { results := [.lit (.bool true)], args := [d] }
  | _ => none }
def fnSurvivalRow : OpenClaim := { program := "ytfmhphgpijjejaagreat", sum := "2588a271bafb2c787d6d05933827e0421731ee7fb53ccba08093ef192622f9c1", func := "loop.example/g00897/laws.FnSurvival", spec := "fnSurvival", unfollowed := true, recurses := true, apart := false }
def FnSurvivalSaid : Prop := fnSurvivalRow.holds Tryz.pinned (OpenSpec.ofChange fnSurvivalSpec)

/-- ITS FALSE NEIGHBOUR: 'it returns false'. Refute it at one input. -/
def fnSurvivalWrong : ChangeSpec := { name := "fnSurvival", fn := fun _ => fun
  | [d] => { results := [.lit (.bool false)], args := [d] }
  | _ => none }
def FnSurvivalWrongFalsely : Prop := fnSurvivalRow.holds Tryz.pinned (OpenSpec.ofChange fnSurvivalWrong)

/-- 'laws.FnProtection': WHATEVER THE INPUT: true; the input reads as it did. -/
def fnProtectionSpec : ChangeSpec := { name := "fnProtection", fn := fun _ => fun
  | [d] => { results := [.lit (.bool true)], args := [d] }
  | _ => none }
def fnProtectionRow : OpenClaim := { program := "ytfmhphgpijjejaagreat", sum := "2588a271bafb2c787d6d05933827e0421731ee7fb53ccba08093ef192622f9c1", func := "loop.example/g00897/laws.FnProtection", spec := "fnProtection", inPlace := ["slices.overlaps[loop.example/g00897/impl.Service]"], unfollowed := true, recurses := true, apart := false }
def FnProtectionSaid : Prop := fnProtectionRow.holds Tryz.pinned (OpenSpec.ofChange fnProtectionSpec)

/-- ITS FALSE NEIGHBOUR: 'it returns false'. Refute it at one input. -/
def fnProtectionWrong : ChangeSpec := { name := "fnProtection", fn := fun _ => fun
  | [d] => { results := [.lit (.bool false)], args := [d] }
  | _ => none }
def FnProtectionWrongFalsely : Prop := fnProtectionRow.holds Tryz.pinned (OpenSpec.ofChange fnProtectionWrong)

/-- 'laws.FnExactRepairOrder': WHATEVER THE INPUT: true; the input reads as it did. -/
def fnExactRepairOrderSpec : ChangeSpec := { name := "fnExactRepairOrder", fn := fun _ => fun
  | [d1, d2, d3, d4] => { results := [.lit (.bool true)], args := [d1, d2, d3, d4] }
  | _ => none }
def fnExactRepairOrderRow : OpenClaim := { program := "ytfmhphgpijjejaagreat", sum := "2588a271bafb2c787d6d05933827e0421731ee7fb53ccba08093ef192622f9c1", func := "loop.example/g00897/laws.FnExactRepairOrder", spec := "fnExactRepairOrder", unfollowed := true, recurses := true, apart := false }
def FnExactRepairOrderSaid : Prop := fnExactRepairOrderRow.holds Tryz.pinned (OpenSpec.ofChange fnExactRepairOrderSpec)

/-- ITS FALSE NEIGHBOUR: 'it returns false'. Refute it at one input. -/
def fnExactRepairOrderWrong : ChangeSpec := { name := "fnExactRepairOrder", fn := fun _ => fun
  | [d1, d2, d3, d4] => { results := [.lit (.bool false)], args := [d1, d2, d3, d4] }
  | _ => none }
def FnExactRepairOrderWrongFalsely : Prop := fnExactRepairOrderRow.holds Tryz.pinned (OpenSpec.ofChange fnExactRepairOrderWrong)

/-- 'laws.FnExactCheapestPair': WHATEVER THE INPUT: true; the input reads as it did. -/
def fnExactCheapestPairSpec : ChangeSpec := { name := "fnExactCheapestPair", fn := fun _ => fun
  | [d1, d2, d3] => { results := [.lit (.bool true)], args := [d1, d2, d3] }
  | _ => none }
def fnExactCheapestPairRow : OpenClaim := { program := "ytfmhphgpijjejaagreat", sum := "2588a271bafb2c787d6d05933827e0421731ee7fb53ccba08093ef192622f9c1", func := "loop.example/g00897/laws.FnExactCheapestPair", spec := "fnExactCheapestPair", unfollowed := true, recurses := true, apart := false }
def FnExactCheapestPairSaid : Prop := fnExactCheapestPairRow.holds Tryz.pinned (OpenSpec.ofChange fnExactCheapestPairSpec)

/-- ITS FALSE NEIGHBOUR: 'it returns false'. Refute it at one input. -/
def fnExactCheapestPairWrong : ChangeSpec := { name := "fnExactCheapestPair", fn := fun _ => fun
  | [d1, d2, d3] => { results := [.lit (.bool false)], args := [d1, d2, d3] }
  | _ => none }
def FnExactCheapestPairWrongFalsely : Prop := fnExactCheapestPairRow.holds Tryz.pinned (OpenSpec.ofChange fnExactCheapestPairWrong)

/-- 'laws.FnRepair': WHATEVER THE INPUT: true; the input reads as it did. -/
def fnRepairSpec : ChangeSpec := { name := "fnRepair", fn := fun _ => fun
  | [d] => { results := [.lit (.bool true)], args := [d] }
  | _ => none }
def fnRepairRow : OpenClaim := { program := "ytfmhphgpijjejaagreat", sum := "2588a271bafb2c787d6d05933827e0421731ee7fb53ccba08093ef192622f9c1", func := "loop.example/g00897/laws.FnRepair", spec := "fnRepair", unfollowed := true, recurses := true, apart := false }
def FnRepairSaid : Prop := fnRepairRow.holds Tryz.pinned (OpenSpec.ofChange fnRepairSpec)

/-- ITS FALSE NEIGHBOUR: 'it returns false'. Refute it at one input. -/
def fnRepairWrong : ChangeSpec := { name := "fnRepair", fn := fun _ => fun
  | [d] => { results := [.lit (.bool false)], args := [d] }
  | _ => none }
def FnRepairWrongFalsely : Prop := fnRepairRow.holds Tryz.pinned (OpenSpec.ofChange fnRepairWrong)

/-- 'laws.FnCompatible': WHATEVER THE INPUT: true; the input reads as it did. -/
def fnCompatibleSpec : ChangeSpec := { name := "fnCompatible", fn := fun _ => fun
  | [d] => { results := [.lit (.bool true)], args := [d] }
  | _ => none }
def fnCompatibleRow : OpenClaim := { program := "ytfmhphgpijjejaagreat", sum := "2588a271bafb2c787d6d05933827e0421731ee7fb53ccba08093ef192622f9c1", func := "loop.example/g00897/laws.FnCompatible", spec := "fnCompatible", unfollowed := true, recurses := true, apart := false }
def FnCompatibleSaid : Prop := fnCompatibleRow.holds Tryz.pinned (OpenSpec.ofChange fnCompatibleSpec)

/-- ITS FALSE NEIGHBOUR: 'it returns false'. Refute it at one input. -/
def fnCompatibleWrong : ChangeSpec := { name := "fnCompatible", fn := fun _ => fun
  | [d] => { results := [.lit (.bool false)], args := [d] }
  | _ => none }
def FnCompatibleWrongFalsely : Prop := fnCompatibleRow.holds Tryz.pinned (OpenSpec.ofChange fnCompatibleWrong)

/-- 'laws.FnExactAddService': WHATEVER THE INPUT: true; the input reads as it did. -/
def fnExactAddServiceSpec : ChangeSpec := { name := "fnExactAddService", fn := fun _ => fun
  | [d1, d2, d3, d4] => { results := [.lit (.bool true)], args := [d1, d2, d3, d4] }
  | _ => none }
def fnExactAddServiceRow : OpenClaim := { program := "ytfmhphgpijjejaagreat", sum := "2588a271bafb2c787d6d05933827e0421731ee7fb53ccba08093ef192622f9c1", func := "loop.example/g00897/laws.FnExactAddService", spec := "fnExactAddService", inPlace := ["slices.overlaps[loop.example/g00897/impl.Service]"], unfollowed := true, recurses := true, apart := false }
def FnExactAddServiceSaid : Prop := fnExactAddServiceRow.holds Tryz.pinned (OpenSpec.ofChange fnExactAddServiceSpec)

/-- ITS FALSE NEIGHBOUR: 'it returns false'. Refute it at one input. -/
def fnExactAddServiceWrong : ChangeSpec := { name := "fnExactAddService", fn := fun _ => fun
  | [d1, d2, d3, d4] => { results := [.lit (.bool false)], args := [d1, d2, d3, d4] }
  | _ => none }
def FnExactAddServiceWrongFalsely : Prop := fnExactAddServiceRow.holds Tryz.pinned (OpenSpec.ofChange fnExactAddServiceWrong)

/- THE SECOND FORM. 'bulk': how many values and letters a reading holds, each counted each time it is reached (what is shared counts as often as it is met; a slice's spare places count too). A statement '..UptoSaid' is the law's where the arguments, and the package variables that the reading takes, are together of bulk at most 1048576: NARROWER than '..Said'. Prove '..Said' where nothing that the law and all that it calls make is longer than what came in: it says more and counts as full. Else prove '..UptoSaid'. A law counts once. -/
mutual
def uptoBulk {H : Type} : DataW H → Nat
  | .lit (.string bytes) => bytes.length + 1
  | .lit _ => 1
  | .nil => 1
  | .ptr d => uptoBulk d + 1
  | .slice elems spare => uptoBulkAll elems + uptoBulkAll spare + 1
  | .agg parts => uptoBulkAll parts + 1
  | .iface _ d => uptoBulk d + 1
  | .map entries => uptoBulkEntries entries + 1
  | .held _ => 1
def uptoBulkAll {H : Type} : List (DataW H) → Nat
  | [] => 0
  | d :: r => uptoBulk d + uptoBulkAll r
def uptoBulkEntries {H : Type} : List (Lit × DataW H) → Nat
  | [] => 0
  | x :: r => uptoBulkEntry x + uptoBulkEntries r
def uptoBulkEntry {H : Type} : Lit × DataW H → Nat
  | (.string bytes, d) => bytes.length + uptoBulk d + 1
  | (_, d) => uptoBulk d + 1
 end
def uptoSmall : (H : Type) → List (DataW H) → Bool := fun _ ds => decide (uptoBulkAll ds ≤ 1048576)
def OpenSpec.upto (s : _root_.Go.ChangeSpec) : _root_.Go.OpenSpec := { _root_.Go.OpenSpec.ofChange s with cond := some uptoSmall }

/-- 'laws.FnSurvival', WHERE WHAT IT READS IS OF BULK AT MOST 1048576: true; the input reads as it did. -/
def fnSurvivalUptoRow : OpenClaim := { program := "ytfmhphgpijjejaagreat", sum := "2588a271bafb2c787d6d05933827e0421731ee7fb53ccba08093ef192622f9c1", func := "loop.example/g00897/laws.FnSurvival", spec := "fnSurvival", unfollowed := true, recurses := true, apart := false, narrowed := true }
def FnSurvivalUptoSaid : Prop := fnSurvivalUptoRow.holds Tryz.pinned (OpenSpec.upto fnSurvivalSpec)

/-- 'laws.FnProtection', WHERE WHAT IT READS IS OF BULK AT MOST 1048576: true; the input reads as it did. -/
def fnProtectionUptoRow : OpenClaim := { program := "ytfmhphgpijjejaagreat", sum := "2588a271bafb2c787d6d05933827e0421731ee7fb53ccba08093ef192622f9c1", func := "loop.example/g00897/laws.FnProtection", spec := "fnProtection", inPlace := ["slices.overlaps[loop.example/g00897/impl.Service]"], unfollowed := true, recurses := true, apart := false, narrowed := true }
def FnProtectionUptoSaid : Prop := fnProtectionUptoRow.holds Tryz.pinned (OpenSpec.upto fnProtectionSpec)

/-- 'laws.FnExactRepairOrder', WHERE WHAT IT READS IS OF BULK AT MOST 1048576: true; the input reads as it did. -/
def fnExactRepairOrderUptoRow : OpenClaim := { program := "ytfmhphgpijjejaagreat", sum := "2588a271bafb2c787d6d05933827e0421731ee7fb53ccba08093ef192622f9c1", func := "loop.example/g00897/laws.FnExactRepairOrder", spec := "fnExactRepairOrder", unfollowed := true, recurses := true, apart := false, narrowed := true }
def FnExactRepairOrderUptoSaid : Prop := fnExactRepairOrderUptoRow.holds Tryz.pinned (OpenSpec.upto fnExactRepairOrderSpec)

/-- 'laws.FnExactCheapestPair', WHERE WHAT IT READS IS OF BULK AT MOST 1048576: true; the input reads as it did. -/
def fnExactCheapestPairUptoRow : OpenClaim := { program := "ytfmhphgpijjejaagreat", sum := "2588a271bafb2c787d6d05933827e0421731ee7fb53ccba08093ef192622f9c1", func := "loop.example/g00897/laws.FnExactCheapestPair", spec := "fnExactCheapestPair", unfollowed := true, recurses := true, apart := false, narrowed := true }
def FnExactCheapestPairUptoSaid : Prop := fnExactCheapestPairUptoRow.holds Tryz.pinned (OpenSpec.upto fnExactCheapestPairSpec)

/-- 'laws.FnRepair', WHERE WHAT IT READS IS OF BULK AT MOST 1048576: true; the input reads as it did. -/
def fnRepairUptoRow : OpenClaim := { program := "ytfmhphgpijjejaagreat", sum := "2588a271bafb2c787d6d05933827e0421731ee7fb53ccba08093ef192622f9c1", func := "loop.example/g00897/laws.FnRepair", spec := "fnRepair", unfollowed := true, recurses := true, apart := false, narrowed := true }
def FnRepairUptoSaid : Prop := fnRepairUptoRow.holds Tryz.pinned (OpenSpec.upto fnRepairSpec)

/-- 'laws.FnCompatible', WHERE WHAT IT READS IS OF BULK AT MOST 1048576: true; the input reads as it did. -/
def fnCompatibleUptoRow : OpenClaim := { program := "ytfmhphgpijjejaagreat", sum := "2588a271bafb2c787d6d05933827e0421731ee7fb53ccba08093ef192622f9c1", func := "loop.example/g00897/laws.FnCompatible", spec := "fnCompatible", unfollowed := true, recurses := true, apart := false, narrowed := true }
def FnCompatibleUptoSaid : Prop := fnCompatibleUptoRow.holds Tryz.pinned (OpenSpec.upto fnCompatibleSpec)

/-- 'laws.FnExactAddService', WHERE WHAT IT READS IS OF BULK AT MOST 1048576: true; the input reads as it did. -/
def fnExactAddServiceUptoRow : OpenClaim := { program := "ytfmhphgpijjejaagreat", sum := "2588a271bafb2c787d6d05933827e0421731ee7fb53ccba08093ef192622f9c1", func := "loop.example/g00897/laws.FnExactAddService", spec := "fnExactAddService", inPlace := ["slices.overlaps[loop.example/g00897/impl.Service]"], unfollowed := true, recurses := true, apart := false, narrowed := true }
def FnExactAddServiceUptoSaid : Prop := fnExactAddServiceUptoRow.holds Tryz.pinned (OpenSpec.upto fnExactAddServiceSpec)

end Rows
end Go.Proofs.YtfmhphgpijjejaaGreat
