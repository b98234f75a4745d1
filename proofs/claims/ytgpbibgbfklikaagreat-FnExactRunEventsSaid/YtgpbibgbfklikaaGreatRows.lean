/-
  No cell of these rows narrows 'for every input' (looked for: loops, veiled, ifaces, maps, wideKeys, modest, calm, conditions, laid).
  DERIVED. THE GIVEN ROWS OF THIS SEAT. 10 by the template 'for every input the law returns true; each argument reads behind the call as it read before'; 0 by the template 'total and deterministic' (their statements: YtgpbibgbfklikaaGreatTotals.lean).
  GIVEN WITH THE SEED: the statements are not yours to turn. If you find one false, say at which input.
  Laid BY PROGRAM, IN A SANDBOX (cutbox-rows.mjs): the forced cells as the released guide's own fill.sh prints them over the translation 2df2e3fcc499be91… (all of the seat's roots in one cut). By AI agents, Wed Nov 11 2026. No macro, syntax, notation, axiom, sorry.
-/
import Derived.Test.YtgpbibgbfklikaaGreatChecked
import GoSem.Claim
import GoSem.ClaimJoined
import GoSem.ClaimMapViews
import Derived.JoinedTies
import Derived.KernelRfl
namespace Go.Proofs.YtgpbibgbfklikaaGreat
/- THE CELL 'sum', in the pinned program and in every row, IS THE sha256 OF THE DUMP (.gsa) THAT YtgpbibgbfklikaaGreatProg.lean LOADS. Nothing in Lean hashes anything: it is a label: what it is worth is what the hold of that sum in a sandbox is worth. -/
noncomputable def Tryz.pinned : Pinned := { name := "ytgpbibgbfklikaagreat", sum := "2df2e3fcc499be91295ef97d8f2ccf87cc2ab92b06232991c2ae2fa13264b6e6", checked := Tryz.checked }
namespace Rows
def none {H : Type} : Left H := { results := [], args := [] }

/-- 'laws.FnExactIsValidRestoration': WHATEVER THE INPUT: true; the input reads as it did. -/
def fnExactIsValidRestorationSpec : ChangeSpec := { name := "fnExactIsValidRestoration", fn := fun _ => fun
  | [d] => { results := [.lit (.bool true)], args := [d] }
  | _ => none }
def fnExactIsValidRestorationRow : OpenClaim := { program := "ytgpbibgbfklikaagreat", sum := "2df2e3fcc499be91295ef97d8f2ccf87cc2ab92b06232991c2ae2fa13264b6e6", func := "loop.example/g00897/laws.FnExactIsValidRestoration", spec := "fnExactIsValidRestoration", unfollowed := true, recurses := true, apart := false }
def FnExactIsValidRestorationSaid : Prop := fnExactIsValidRestorationRow.holds Tryz.pinned (OpenSpec.ofChange fnExactIsValidRestorationSpec)

/-- ITS FALSE NEIGHBOUR: 'it returns false'. Refute it at one input. -/
def fnExactIsValidRestorationWrong : ChangeSpec := { name := "fnExactIsValidRestoration", fn := fun _ => fun
  | [d] => { results := [.lit (.bool false)], args := [d] }
  | _ => none }
def FnExactIsValidRestorationWrongFalsely : Prop := fnExactIsValidRestorationRow.holds Tryz.pinned (OpenSpec.ofChange fnExactIsValidRestorationWrong)

/-- 'laws.FnExactWaitingLights': WHATEVER THE INPUT: true; the input reads as it did. -/
def fnExactWaitingLightsSpec : ChangeSpec := { name := "fnExactWaitingLights", fn := fun _ => fun
  | [d] => { results := [.lit (.bool true)], args := [d] }
  | _ => none }
def fnExactWaitingLightsRow : OpenClaim := { program := "ytgpbibgbfklikaagreat", sum := "2df2e3fcc499be91295ef97d8f2ccf87cc2ab92b06232991c2ae2fa13264b6e6", func := "loop.example/g00897/laws.FnExactWaitingLights", spec := "fnExactWaitingLights", unfollowed := true, recurses := true, apart := false }
def FnExactWaitingLightsSaid : Prop := fnExactWaitingLightsRow.holds Tryz.pinned (OpenSpec.ofChange fnExactWaitingLightsSpec)

/-- ITS FALSE NEIGHBOUR: 'it returns false'. Refute it at one input. -/
def fnExactWaitingLightsWrong : ChangeSpec := { name := "fnExactWaitingLights", fn := fun _ => fun
  | [d] => { results := [.lit (.bool false)], args := [d] }
  | _ => none }
def FnExactWaitingLightsWrongFalsely : Prop := fnExactWaitingLightsRow.holds Tryz.pinned (OpenSpec.ofChange fnExactWaitingLightsWrong)

/-- 'laws.FnExactStartRestoration': WHATEVER THE INPUT: true; the input reads as it did. -/
def fnExactStartRestorationSpec : ChangeSpec := { name := "fnExactStartRestoration", fn := fun _ => fun
  | [d] => { results := [.lit (.bool true)], args := [d] }
  | _ => none }
def fnExactStartRestorationRow : OpenClaim := { program := "ytgpbibgbfklikaagreat", sum := "2df2e3fcc499be91295ef97d8f2ccf87cc2ab92b06232991c2ae2fa13264b6e6", func := "loop.example/g00897/laws.FnExactStartRestoration", spec := "fnExactStartRestoration", unfollowed := true, recurses := true, apart := false }
def FnExactStartRestorationSaid : Prop := fnExactStartRestorationRow.holds Tryz.pinned (OpenSpec.ofChange fnExactStartRestorationSpec)

/-- ITS FALSE NEIGHBOUR: 'it returns false'. Refute it at one input. -/
def fnExactStartRestorationWrong : ChangeSpec := { name := "fnExactStartRestoration", fn := fun _ => fun
  | [d] => { results := [.lit (.bool false)], args := [d] }
  | _ => none }
def FnExactStartRestorationWrongFalsely : Prop := fnExactStartRestorationRow.holds Tryz.pinned (OpenSpec.ofChange fnExactStartRestorationWrong)

/-- 'laws.FnExactRepairFibers': WHATEVER THE INPUT: true; the input reads as it did. -/
def fnExactRepairFibersSpec : ChangeSpec := { name := "fnExactRepairFibers", fn := fun _ => fun
  | [d1, d2] => { results := [.lit (.bool true)], args := [d1, d2] }
  | _ => none }
def fnExactRepairFibersRow : OpenClaim := { program := "ytgpbibgbfklikaagreat", sum := "2df2e3fcc499be91295ef97d8f2ccf87cc2ab92b06232991c2ae2fa13264b6e6", func := "loop.example/g00897/laws.FnExactRepairFibers", spec := "fnExactRepairFibers", unfollowed := true, recurses := true, apart := false }
def FnExactRepairFibersSaid : Prop := fnExactRepairFibersRow.holds Tryz.pinned (OpenSpec.ofChange fnExactRepairFibersSpec)

/-- ITS FALSE NEIGHBOUR: 'it returns false'. Refute it at one input. -/
def fnExactRepairFibersWrong : ChangeSpec := { name := "fnExactRepairFibers", fn := fun _ => fun
  | [d1, d2] => { results := [.lit (.bool false)], args := [d1, d2] }
  | _ => none }
def FnExactRepairFibersWrongFalsely : Prop := fnExactRepairFibersRow.holds Tryz.pinned (OpenSpec.ofChange fnExactRepairFibersWrong)

/-- 'laws.FnExactPlanOf': WHATEVER THE INPUT: true; the input reads as it did. -/
def fnExactPlanOfSpec : ChangeSpec := { name := "fnExactPlanOf", fn := fun _ => fun
  | [d1, d2] => { results := [.lit (.bool true)], args := [d1, d2] }
  | _ => none }
def fnExactPlanOfRow : OpenClaim := { program := "ytgpbibgbfklikaagreat", sum := "2df2e3fcc499be91295ef97d8f2ccf87cc2ab92b06232991c2ae2fa13264b6e6", func := "loop.example/g00897/laws.FnExactPlanOf", spec := "fnExactPlanOf", unfollowed := true, recurses := true, apart := false }
def FnExactPlanOfSaid : Prop := fnExactPlanOfRow.holds Tryz.pinned (OpenSpec.ofChange fnExactPlanOfSpec)

/-- ITS FALSE NEIGHBOUR: 'it returns false'. Refute it at one input. -/
def fnExactPlanOfWrong : ChangeSpec := { name := "fnExactPlanOf", fn := fun _ => fun
  | [d1, d2] => { results := [.lit (.bool false)], args := [d1, d2] }
  | _ => none }
def FnExactPlanOfWrongFalsely : Prop := fnExactPlanOfRow.holds Tryz.pinned (OpenSpec.ofChange fnExactPlanOfWrong)

/-- 'laws.FnExactRevertLights': WHATEVER THE INPUT: true; the input reads as it did. -/
def fnExactRevertLightsSpec : ChangeSpec := { name := "fnExactRevertLights", fn := fun _ => fun
  | [d] => { results := [.lit (.bool true)], args := [d] }
  | _ => none }
def fnExactRevertLightsRow : OpenClaim := { program := "ytgpbibgbfklikaagreat", sum := "2df2e3fcc499be91295ef97d8f2ccf87cc2ab92b06232991c2ae2fa13264b6e6", func := "loop.example/g00897/laws.FnExactRevertLights", spec := "fnExactRevertLights", unfollowed := true, recurses := true, apart := false }
def FnExactRevertLightsSaid : Prop := fnExactRevertLightsRow.holds Tryz.pinned (OpenSpec.ofChange fnExactRevertLightsSpec)

/-- ITS FALSE NEIGHBOUR: 'it returns false'. Refute it at one input. -/
def fnExactRevertLightsWrong : ChangeSpec := { name := "fnExactRevertLights", fn := fun _ => fun
  | [d] => { results := [.lit (.bool false)], args := [d] }
  | _ => none }
def FnExactRevertLightsWrongFalsely : Prop := fnExactRevertLightsRow.holds Tryz.pinned (OpenSpec.ofChange fnExactRevertLightsWrong)

/-- 'laws.FnExactFailFibers': WHATEVER THE INPUT: true; the input reads as it did. -/
def fnExactFailFibersSpec : ChangeSpec := { name := "fnExactFailFibers", fn := fun _ => fun
  | [d1, d2] => { results := [.lit (.bool true)], args := [d1, d2] }
  | _ => none }
def fnExactFailFibersRow : OpenClaim := { program := "ytgpbibgbfklikaagreat", sum := "2df2e3fcc499be91295ef97d8f2ccf87cc2ab92b06232991c2ae2fa13264b6e6", func := "loop.example/g00897/laws.FnExactFailFibers", spec := "fnExactFailFibers", unfollowed := true, recurses := true, apart := false }
def FnExactFailFibersSaid : Prop := fnExactFailFibersRow.holds Tryz.pinned (OpenSpec.ofChange fnExactFailFibersSpec)

/-- ITS FALSE NEIGHBOUR: 'it returns false'. Refute it at one input. -/
def fnExactFailFibersWrong : ChangeSpec := { name := "fnExactFailFibers", fn := fun _ => fun
  | [d1, d2] => { results := [.lit (.bool false)], args := [d1, d2] }
  | _ => none }
def FnExactFailFibersWrongFalsely : Prop := fnExactFailFibersRow.holds Tryz.pinned (OpenSpec.ofChange fnExactFailFibersWrong)

/-- 'laws.FnExactRestoreLight': WHATEVER THE INPUT: true; the input reads as it did. -/
def fnExactRestoreLightSpec : ChangeSpec := { name := "fnExactRestoreLight", fn := fun _ => fun
  | [d1, d2] => { results := [.lit (.bool true)], args := [d1, d2] }
  | _ => none }
def fnExactRestoreLightRow : OpenClaim := { program := "ytgpbibgbfklikaagreat", sum := "2df2e3fcc499be91295ef97d8f2ccf87cc2ab92b06232991c2ae2fa13264b6e6", func := "loop.example/g00897/laws.FnExactRestoreLight", spec := "fnExactRestoreLight", inPlace := ["slices.overlaps[loop.example/g00897/impl.Light]"], unfollowed := true, recurses := true, apart := false }
def FnExactRestoreLightSaid : Prop := fnExactRestoreLightRow.holds Tryz.pinned (OpenSpec.ofChange fnExactRestoreLightSpec)

/-- ITS FALSE NEIGHBOUR: 'it returns false'. Refute it at one input. -/
def fnExactRestoreLightWrong : ChangeSpec := { name := "fnExactRestoreLight", fn := fun _ => fun
  | [d1, d2] => { results := [.lit (.bool false)], args := [d1, d2] }
  | _ => none }
def FnExactRestoreLightWrongFalsely : Prop := fnExactRestoreLightRow.holds Tryz.pinned (OpenSpec.ofChange fnExactRestoreLightWrong)

/-- 'laws.FnExactRestoreAll': WHATEVER THE INPUT: true; the input reads as it did. -/
def fnExactRestoreAllSpec : ChangeSpec := { name := "fnExactRestoreAll", fn := fun _ => fun
  | [d] => { results := [.lit (.bool true)], args := [d] }
  | _ => none }
def fnExactRestoreAllRow : OpenClaim := { program := "ytgpbibgbfklikaagreat", sum := "2df2e3fcc499be91295ef97d8f2ccf87cc2ab92b06232991c2ae2fa13264b6e6", func := "loop.example/g00897/laws.FnExactRestoreAll", spec := "fnExactRestoreAll", inPlace := ["slices.overlaps[loop.example/g00897/impl.Light]"], unfollowed := true, recurses := true, apart := false }
def FnExactRestoreAllSaid : Prop := fnExactRestoreAllRow.holds Tryz.pinned (OpenSpec.ofChange fnExactRestoreAllSpec)

/-- ITS FALSE NEIGHBOUR: 'it returns false'. Refute it at one input. -/
def fnExactRestoreAllWrong : ChangeSpec := { name := "fnExactRestoreAll", fn := fun _ => fun
  | [d] => { results := [.lit (.bool false)], args := [d] }
  | _ => none }
def FnExactRestoreAllWrongFalsely : Prop := fnExactRestoreAllRow.holds Tryz.pinned (OpenSpec.ofChange fnExactRestoreAllWrong)

/-- 'laws.FnExactRunEvents': WHATEVER THE INPUT: true; the input reads as it did. -/
def fnExactRunEventsSpec : ChangeSpec := { name := "fnExactRunEvents", fn := fun _ => fun
  | [d1, d2] => { results := [.lit (.bool true)], args := [d1, d2] }
  | _ => none }
def fnExactRunEventsRow : OpenClaim := { program := "ytgpbibgbfklikaagreat", sum := "2df2e3fcc499be91295ef97d8f2ccf87cc2ab92b06232991c2ae2fa13264b6e6", func := "loop.example/g00897/laws.FnExactRunEvents", spec := "fnExactRunEvents", inPlace := ["slices.overlaps[loop.example/g00897/impl.Light]"], unfollowed := true, recurses := true, apart := false }
def FnExactRunEventsSaid : Prop := fnExactRunEventsRow.holds Tryz.pinned (OpenSpec.ofChange fnExactRunEventsSpec)

/-- ITS FALSE NEIGHBOUR: 'it returns false'. Refute it at one input. -/
def fnExactRunEventsWrong : ChangeSpec := { name := "fnExactRunEvents", fn := fun _ => fun
  | [d1, d2] => { results := [.lit (.bool false)], args := [d1, d2] }
  | _ => none }
def FnExactRunEventsWrongFalsely : Prop := fnExactRunEventsRow.holds Tryz.pinned (OpenSpec.ofChange fnExactRunEventsWrong)

/- THE SECOND FORM. 'bulk': how many values and letters a reading holds, each counted each time it is reached (what is shared counts as often as it is met; a slice's spare places count too). A statement '..UptoSaid' is the law's where the arguments, and the package variables that the reading takes, are together of bulk at most 1048576: NARROWER than '..Said'. Prove '..Said' where nothing that the law and all that it calls make is longer than what came in: it says more and counts as full. Else prove '..UptoSaid'. A law counts once. -/
mutual
def uptoBulk {H : Type} : DataW H → Nat
  | .lit (.string bytes) => bytes.length + 1
  | .lit _ => 1
  | .nil => 1
  | .ptr d => uptoBulk d + 1
  | .slice elems spare => uptoBulkAll elems + uptoBulkAll spare + 1
  | .agg parts => uptoBulkAll parts + 1
  | .iface _ d => uptoBulk d + 1
  | .map entries => uptoBulkEntries entries + 1
  | .held _ => 1
def uptoBulkAll {H : Type} : List (DataW H) → Nat
  | [] => 0
  | d :: r => uptoBulk d + uptoBulkAll r
def uptoBulkEntries {H : Type} : List (Lit × DataW H) → Nat
  | [] => 0
  | x :: r => uptoBulkEntry x + uptoBulkEntries r
def uptoBulkEntry {H : Type} : Lit × DataW H → Nat
  | (.string bytes, d) => bytes.length + uptoBulk d + 1
  | (_, d) => uptoBulk d + 1
 end
def uptoSmall : (H : Type) → List (DataW H) → Bool := fun _ ds => decide (uptoBulkAll ds ≤ 1048576)
def OpenSpec.upto (s : _root_.Go.ChangeSpec) : _root_.Go.OpenSpec := { _root_.Go.OpenSpec.ofChange s with cond := some uptoSmall }

/-- 'laws.FnExactIsValidRestoration', WHERE WHAT IT READS IS OF BULK AT MOST 1048576: true; the input reads as it did. -/
def fnExactIsValidRestorationUptoRow : OpenClaim := { program := "ytgpbibgbfklikaagreat", sum := "2df2e3fcc499be91295ef97d8f2ccf87cc2ab92b06232991c2ae2fa13264b6e6", func := "loop.example/g00897/laws.FnExactIsValidRestoration", spec := "fnExactIsValidRestoration", unfollowed := true, recurses := true, apart := false, narrowed := true }
def FnExactIsValidRestorationUptoSaid : Prop := fnExactIsValidRestorationUptoRow.holds Tryz.pinned (OpenSpec.upto fnExactIsValidRestorationSpec)

/-- 'laws.FnExactWaitingLights', WHERE WHAT IT READS IS OF BULK AT MOST 1048576: true; the input reads as it did. -/
def fnExactWaitingLightsUptoRow : OpenClaim := { program := "ytgpbibgbfklikaagreat", sum := "2df2e3fcc499be91295ef97d8f2ccf87cc2ab92b06232991c2ae2fa13264b6e6", func := "loop.example/g00897/laws.FnExactWaitingLights", spec := "fnExactWaitingLights", unfollowed := true, recurses := true, apart := false, narrowed := true }
def FnExactWaitingLightsUptoSaid : Prop := fnExactWaitingLightsUptoRow.holds Tryz.pinned (OpenSpec.upto fnExactWaitingLightsSpec)

/-- 'laws.FnExactStartRestoration', WHERE WHAT IT READS IS OF BULK AT MOST 1048576: true; the input reads as it did. -/
def fnExactStartRestorationUptoRow : OpenClaim := { program := "ytgpbibgbfklikaagreat", sum := "2df2e3fcc499be91295ef97d8f2ccf87cc2ab92b06232991c2ae2fa13264b6e6", func := "loop.example/g00897/laws.FnExactStartRestoration", spec := "fnExactStartRestoration", unfollowed := true, recurses := true, apart := false, narrowed := true }
def FnExactStartRestorationUptoSaid : Prop := fnExactStartRestorationUptoRow.holds Tryz.pinned (OpenSpec.upto fnExactStartRestorationSpec)

/-- 'laws.FnExactRepairFibers', WHERE WHAT IT READS IS OF BULK AT MOST 1048576: true; the input reads as it did. -/
def fnExactRepairFibersUptoRow : OpenClaim := { program := "ytgpbibgbfklikaagreat", sum := "2df2e3fcc499be91295ef97d8f2ccf87cc2ab92b06232991c2ae2fa13264b6e6", func := "loop.example/g00897/laws.FnExactRepairFibers", spec := "fnExactRepairFibers", unfollowed := true, recurses := true, apart := false, narrowed := true }
def FnExactRepairFibersUptoSaid : Prop := fnExactRepairFibersUptoRow.holds Tryz.pinned (OpenSpec.upto fnExactRepairFibersSpec)

/-- 'laws.FnExactPlanOf', WHERE WHAT IT READS IS OF BULK AT MOST 1048576: true; the input reads as it did. -/
def fnExactPlanOfUptoRow : OpenClaim := { program := "ytgpbibgbfklikaagreat", sum := "2df2e3fcc499be91295ef97d8f2ccf87cc2ab92b06232991c2ae2fa13264b6e6", func := "loop.example/g00897/laws.FnExactPlanOf", spec := "fnExactPlanOf", unfollowed := true, recurses := true, apart := false, narrowed := true }
def FnExactPlanOfUptoSaid : Prop := fnExactPlanOfUptoRow.holds Tryz.pinned (OpenSpec.upto fnExactPlanOfSpec)

/-- 'laws.FnExactRevertLights', WHERE WHAT IT READS IS OF BULK AT MOST 1048576: true; the input reads as it did. -/
def fnExactRevertLightsUptoRow : OpenClaim := { program := "ytgpbibgbfklikaagreat", sum := "2df2e3fcc499be91295ef97d8f2ccf87cc2ab92b06232991c2ae2fa13264b6e6", func := "loop.example/g00897/laws.FnExactRevertLights", spec := "fnExactRevertLights", unfollowed := true, recurses := true, apart := false, narrowed := true }
def FnExactRevertLightsUptoSaid : Prop := fnExactRevertLightsUptoRow.holds Tryz.pinned (OpenSpec.upto fnExactRevertLightsSpec)

/-- 'laws.FnExactFailFibers', WHERE WHAT IT READS IS OF BULK AT MOST 1048576: true; the input reads as it did. -/
def fnExactFailFibersUptoRow : OpenClaim := { program := "ytgpbibgbfklikaagreat", sum := "2df2e3fcc499be91295ef97d8f2ccf87cc2ab92b06232991c2ae2fa13264b6e6", func := "loop.example/g00897/laws.FnExactFailFibers", spec := "fnExactFailFibers", unfollowed := true, recurses := true, apart := false, narrowed := true }
def FnExactFailFibersUptoSaid : Prop := fnExactFailFibersUptoRow.holds Tryz.pinned (OpenSpec.upto fnExactFailFibersSpec)

/-- 'laws.FnExactRestoreLight', WHERE WHAT IT READS IS OF BULK AT MOST 1048576: true; the input reads as it did. -/
def fnExactRestoreLightUptoRow : OpenClaim := { program := "ytgpbibgbfklikaagreat", sum := "2df2e3fcc499be91295ef97d8f2ccf87cc2ab92b06232991c2ae2fa13264b6e6", func := "loop.example/g00897/laws.FnExactRestoreLight", spec := "fnExactRestoreLight", inPlace := ["slices.overlaps[loop.example/g00897/impl.Light]"], unfollowed := true, recurses := true, apart := false, narrowed := true }
def FnExactRestoreLightUptoSaid : Prop := fnExactRestoreLightUptoRow.holds Tryz.pinned (OpenSpec.upto fnExactRestoreLightSpec)

/-- 'laws.FnExactRestoreAll', WHERE WHAT IT READS IS OF BULK AT MOST 1048576: true; the input reads as it did. -/
def fnExactRestoreAllUptoRow : OpenClaim := { program := "ytgpbibgbfklikaagreat", sum := "2df2e3fcc499be91295ef97d8f2ccf87cc2ab92b06232991c2ae2fa13264b6e6", func := "loop.example/g00897/laws.FnExactRestoreAll", spec := "fnExactRestoreAll", inPlace := ["slices.overlaps[loop.example/g00897/impl.Light]"], unfollowed := true, recurses := true, apart := false, narrowed := true }
def FnExactRestoreAllUptoSaid : Prop := fnExactRestoreAllUptoRow.holds Tryz.pinned (OpenSpec.upto fnExactRestoreAllSpec)

/-- 'laws.FnExactRunEvents', WHERE WHAT IT READS IS OF BULK AT MOST 1048576: true; the input reads as it did. -/
def fnExactRunEventsUptoRow : OpenClaim := { program := "ytgpbibgbfklikaagreat", sum := "2df2e3fcc499be91295ef97d8f2ccf87cc2ab92b06232991c2ae2fa13264b6e6", func := "loop.example/g00897/laws.FnExactRunEvents", spec := "fnExactRunEvents", inPlace := ["slices.overlaps[loop.example/g00897/impl.Light]"], unfollowed := true, recurses := true, apart := false, narrowed := true }
def FnExactRunEventsUptoSaid : Prop := fnExactRunEventsUptoRow.holds Tryz.pinned (OpenSpec.upto fnExactRunEventsSpec)

end Rows
end Go.Proofs.YtgpbibgbfklikaaGreat
