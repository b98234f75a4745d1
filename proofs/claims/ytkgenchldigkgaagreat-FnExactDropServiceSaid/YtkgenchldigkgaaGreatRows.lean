/-
  No cell of these rows narrows 'for every input' (looked for: loops, veiled, ifaces, maps, wideKeys, modest, calm, conditions, laid).
  DERIVED. THE GIVEN ROWS OF THIS SEAT. 9 by the template 'for every input the law returns true; each argument reads behind the call as it read before'; 0 by the template 'total and deterministic' (their statements: YtkgenchldigkgaaGreatTotals.lean).
  GIVEN WITH THE SEED: the statements are not yours to turn. If you find one false, say at which input.
  Laid BY PROGRAM, IN A SANDBOX (cutbox-rows.mjs): the forced cells as the released guide's own fill.sh prints them over the translation 082e792192ab0515… (all of the seat's roots in one cut). By AI agents, Wed Nov 11 2026. No macro, syntax, notation, axiom, sorry.
-/
import Derived.Test.YtkgenchldigkgaaGreatChecked
import GoSem.Claim
import GoSem.ClaimJoined
import GoSem.ClaimMapViews
import Derived.JoinedTies
import Derived.KernelRfl
namespace Go.Proofs.YtkgenchldigkgaaGreat
/- THE CELL 'sum', in the pinned program and in every row, IS THE sha256 OF THE DUMP (.gsa) THAT YtkgenchldigkgaaGreatProg.lean LOADS. Nothing in Lean hashes anything: it is a label: what it is worth is what the hold of that sum in a sandbox is worth. -/
noncomputable def Tryz.pinned : Pinned := { name := "ytkgenchldigkgaagreat", sum := "082e792192ab051527e21a628647d18435770d1fc6107af72f865c93e4b589ac", checked := Tryz.checked }
namespace Rows
def none {H : Type} : Left H := { results := [], args := [] }

/-- 'laws.FnExactServiceMasks': WHATEVER THE INPUT: true; the input reads as it did. -/
def fnExactServiceMasksSpec : ChangeSpec := { name := "fnExactServiceMasks", fn := fun _ => fun
  | [d1, d2] => { results := [.lit (.bool true)], args := [d1, d2] }
  | _ => none }
def fnExactServiceMasksRow : OpenClaim := { program := "ytkgenchldigkgaagreat", sum := "082e792192ab051527e21a628647d18435770d1fc6107af72f865c93e4b589ac", func := "loop.example/g00897/laws.FnExactServiceMasks", spec := "fnExactServiceMasks", unfollowed := true, recurses := true, apart := false }
def FnExactServiceMasksSaid : Prop := fnExactServiceMasksRow.holds Tryz.pinned (OpenSpec.ofChange fnExactServiceMasksSpec)

/-- ITS FALSE NEIGHBOUR: 'it returns false'. Refute it at one input. -/
def fnExactServiceMasksWrong : ChangeSpec := { name := "fnExactServiceMasks", fn := fun _ => fun
  | [d1, d2] => { results := [.lit (.bool false)], args := [d1, d2] }
  | _ => none }
def FnExactServiceMasksWrongFalsely : Prop := fnExactServiceMasksRow.holds Tryz.pinned (OpenSpec.ofChange fnExactServiceMasksWrong)

/-- 'laws.FnExactLostRate': WHATEVER THE INPUT: true; the input reads as it did. -/
def fnExactLostRateSpec : ChangeSpec := { name := "fnExactLostRate", fn := fun _ => fun
  | [d1, d2, d3, d4] => { results := [.lit (.bool true)], args := [d1, d2, d3, d4] }
  | _ => none }
def fnExactLostRateRow : OpenClaim := { program := "ytkgenchldigkgaagreat", sum := "082e792192ab051527e21a628647d18435770d1fc6107af72f865c93e4b589ac", func := "loop.example/g00897/laws.FnExactLostRate", spec := "fnExactLostRate", unfollowed := true, recurses := true, apart := false }
def FnExactLostRateSaid : Prop := fnExactLostRateRow.holds Tryz.pinned (OpenSpec.ofChange fnExactLostRateSpec)

/-- ITS FALSE NEIGHBOUR: 'it returns false'. Refute it at one input. -/
def fnExactLostRateWrong : ChangeSpec := { name := "fnExactLostRate", fn := fun _ => fun
  | [d1, d2, d3, d4] => { results := [.lit (.bool false)], args := [d1, d2, d3, d4] }
  | _ => none }
def FnExactLostRateWrongFalsely : Prop := fnExactLostRateRow.holds Tryz.pinned (OpenSpec.ofChange fnExactLostRateWrong)

/-- 'laws.FnExactWorstPair': WHATEVER THE INPUT: true; the input reads as it did. -/
def fnExactWorstPairSpec : ChangeSpec := { name := "fnExactWorstPair", fn := fun _ => fun
  | [d1, d2, d3] => { results := [.lit (.bool true)], args := [d1, d2, d3] }
  | _ => none }
def fnExactWorstPairRow : OpenClaim := { program := "ytkgenchldigkgaagreat", sum := "082e792192ab051527e21a628647d18435770d1fc6107af72f865c93e4b589ac", func := "loop.example/g00897/laws.FnExactWorstPair", spec := "fnExactWorstPair", unfollowed := true, recurses := true, apart := false }
def FnExactWorstPairSaid : Prop := fnExactWorstPairRow.holds Tryz.pinned (OpenSpec.ofChange fnExactWorstPairSpec)

/-- ITS FALSE NEIGHBOUR: 'it returns false'. Refute it at one input. -/
def fnExactWorstPairWrong : ChangeSpec := { name := "fnExactWorstPair", fn := fun _ => fun
  | [d1, d2, d3] => { results := [.lit (.bool false)], args := [d1, d2, d3] }
  | _ => none }
def FnExactWorstPairWrongFalsely : Prop := fnExactWorstPairRow.holds Tryz.pinned (OpenSpec.ofChange fnExactWorstPairWrong)

/-- 'laws.FnExactDropService': WHATEVER THE INPUT: true; the input reads as it did. -/
def fnExactDropServiceSpec : ChangeSpec := { name := "fnExactDropService", fn := fun _ => fun
  | [d1, d2, d3] => { results := [.lit (.bool true)], args := [d1, d2, d3] }
  | _ => none }
def fnExactDropServiceRow : OpenClaim := { program := "ytkgenchldigkgaagreat", sum := "082e792192ab051527e21a628647d18435770d1fc6107af72f865c93e4b589ac", func := "loop.example/g00897/laws.FnExactDropService", spec := "fnExactDropService", unfollowed := true, recurses := true, apart := false }
def FnExactDropServiceSaid : Prop := fnExactDropServiceRow.holds Tryz.pinned (OpenSpec.ofChange fnExactDropServiceSpec)

/-- ITS FALSE NEIGHBOUR: 'it returns false'. Refute it at one input. -/
def fnExactDropServiceWrong : ChangeSpec := { name := "fnExactDropService", fn := fun _ => fun
  | [d1, d2, d3] => { results := [.lit (.bool false)], args := [d1, d2, d3] }
  | _ => none }
def FnExactDropServiceWrongFalsely : Prop := fnExactDropServiceRow.holds Tryz.pinned (OpenSpec.ofChange fnExactDropServiceWrong)

/-- 'laws.FnExactLosingGroups': WHATEVER THE INPUT: true; the input reads as it did. -/
def fnExactLosingGroupsSpec : ChangeSpec := { name := "fnExactLosingGroups", fn := fun _ => fun
  | [d1, d2] => { results := [.lit (.bool true)], args := [d1, d2] }
  | _ => none }
def fnExactLosingGroupsRow : OpenClaim := { program := "ytkgenchldigkgaagreat", sum := "082e792192ab051527e21a628647d18435770d1fc6107af72f865c93e4b589ac", func := "loop.example/g00897/laws.FnExactLosingGroups", spec := "fnExactLosingGroups", unfollowed := true, recurses := true, apart := false }
def FnExactLosingGroupsSaid : Prop := fnExactLosingGroupsRow.holds Tryz.pinned (OpenSpec.ofChange fnExactLosingGroupsSpec)

/-- ITS FALSE NEIGHBOUR: 'it returns false'. Refute it at one input. -/
def fnExactLosingGroupsWrong : ChangeSpec := { name := "fnExactLosingGroups", fn := fun _ => fun
  | [d1, d2] => { results := [.lit (.bool false)], args := [d1, d2] }
  | _ => none }
def FnExactLosingGroupsWrongFalsely : Prop := fnExactLosingGroupsRow.holds Tryz.pinned (OpenSpec.ofChange fnExactLosingGroupsWrong)

/-- 'laws.FnExactStatusAfter': WHATEVER THE INPUT: true; the input reads as it did. -/
def fnExactStatusAfterSpec : ChangeSpec := { name := "fnExactStatusAfter", fn := fun _ => fun
  | [d1, d2, d3] => { results := [.lit (.bool true)], args := [d1, d2, d3] }
  | _ => none }
def fnExactStatusAfterRow : OpenClaim := { program := "ytkgenchldigkgaagreat", sum := "082e792192ab051527e21a628647d18435770d1fc6107af72f865c93e4b589ac", func := "loop.example/g00897/laws.FnExactStatusAfter", spec := "fnExactStatusAfter", unfollowed := true, recurses := true, apart := false }
def FnExactStatusAfterSaid : Prop := fnExactStatusAfterRow.holds Tryz.pinned (OpenSpec.ofChange fnExactStatusAfterSpec)

/-- ITS FALSE NEIGHBOUR: 'it returns false'. Refute it at one input. -/
def fnExactStatusAfterWrong : ChangeSpec := { name := "fnExactStatusAfter", fn := fun _ => fun
  | [d1, d2, d3] => { results := [.lit (.bool false)], args := [d1, d2, d3] }
  | _ => none }
def FnExactStatusAfterWrongFalsely : Prop := fnExactStatusAfterRow.holds Tryz.pinned (OpenSpec.ofChange fnExactStatusAfterWrong)

/-- 'laws.FnExactLostServices': WHATEVER THE INPUT: true; the input reads as it did. -/
def fnExactLostServicesSpec : ChangeSpec := { name := "fnExactLostServices", fn := fun _ => fun
  | [d1, d2, d3] => { results := [.lit (.bool true)], args := [d1, d2, d3] }
  | _ => none }
def fnExactLostServicesRow : OpenClaim := { program := "ytkgenchldigkgaagreat", sum := "082e792192ab051527e21a628647d18435770d1fc6107af72f865c93e4b589ac", func := "loop.example/g00897/laws.FnExactLostServices", spec := "fnExactLostServices", unfollowed := true, recurses := true, apart := false }
def FnExactLostServicesSaid : Prop := fnExactLostServicesRow.holds Tryz.pinned (OpenSpec.ofChange fnExactLostServicesSpec)

/-- ITS FALSE NEIGHBOUR: 'it returns false'. Refute it at one input. -/
def fnExactLostServicesWrong : ChangeSpec := { name := "fnExactLostServices", fn := fun _ => fun
  | [d1, d2, d3] => { results := [.lit (.bool false)], args := [d1, d2, d3] }
  | _ => none }
def FnExactLostServicesWrongFalsely : Prop := fnExactLostServicesRow.holds Tryz.pinned (OpenSpec.ofChange fnExactLostServicesWrong)

/-- 'laws.FnExactActiveMasks': WHATEVER THE INPUT: true; the input reads as it did. -/
def fnExactActiveMasksSpec : ChangeSpec := { name := "fnExactActiveMasks", fn := fun _ => fun
  | [d1, d2, d3] => { results := [.lit (.bool true)], args := [d1, d2, d3] }
  | _ => none }
def fnExactActiveMasksRow : OpenClaim := { program := "ytkgenchldigkgaagreat", sum := "082e792192ab051527e21a628647d18435770d1fc6107af72f865c93e4b589ac", func := "loop.example/g00897/laws.FnExactActiveMasks", spec := "fnExactActiveMasks", unfollowed := true, recurses := true, apart := false }
def FnExactActiveMasksSaid : Prop := fnExactActiveMasksRow.holds Tryz.pinned (OpenSpec.ofChange fnExactActiveMasksSpec)

/-- ITS FALSE NEIGHBOUR: 'it returns false'. Refute it at one input. -/
def fnExactActiveMasksWrong : ChangeSpec := { name := "fnExactActiveMasks", fn := fun _ => fun
  | [d1, d2, d3] => { results := [.lit (.bool false)], args := [d1, d2, d3] }
  | _ => none }
def FnExactActiveMasksWrongFalsely : Prop := fnExactActiveMasksRow.holds Tryz.pinned (OpenSpec.ofChange fnExactActiveMasksWrong)

/-- 'laws.FnExactFirstLoss': WHATEVER THE INPUT: true; the input reads as it did. -/
def fnExactFirstLossSpec : ChangeSpec := { name := "fnExactFirstLoss", fn := fun _ => fun
  | [d1, d2, d3] => { results := [.lit (.bool true)], args := [d1, d2, d3] }
  | _ => none }
def fnExactFirstLossRow : OpenClaim := { program := "ytkgenchldigkgaagreat", sum := "082e792192ab051527e21a628647d18435770d1fc6107af72f865c93e4b589ac", func := "loop.example/g00897/laws.FnExactFirstLoss", spec := "fnExactFirstLoss", unfollowed := true, recurses := true, apart := false }
def FnExactFirstLossSaid : Prop := fnExactFirstLossRow.holds Tryz.pinned (OpenSpec.ofChange fnExactFirstLossSpec)

/-- ITS FALSE NEIGHBOUR: 'it returns false'. Refute it at one input. -/
def fnExactFirstLossWrong : ChangeSpec := { name := "fnExactFirstLoss", fn := fun _ => fun
  | [d1, d2, d3] => { results := [.lit (.bool false)], args := [d1, d2, d3] }
  | _ => none }
def FnExactFirstLossWrongFalsely : Prop := fnExactFirstLossRow.holds Tryz.pinned (OpenSpec.ofChange fnExactFirstLossWrong)

/- THE SECOND FORM. 'bulk': how many values and letters a reading holds, each counted each time it is reached (what is shared counts as often as it is met; a slice's spare places count too). A statement '..UptoSaid' is the law's where the arguments, and the package variables that the reading takes, are together of bulk at most 1048576: NARROWER than '..Said'. Prove '..Said' where nothing that the law and all that it calls make is longer than what came in: it says more and counts as full. Else prove '..UptoSaid'. A law counts once. -/
mutual
def uptoBulk {H : Type} : DataW H → Nat
  | .lit (.string bytes) => bytes.length + 1
  | .lit _ => 1
  | .nil => 1
  | .ptr d => uptoBulk d + 1
  | .slice elems spare => uptoBulkAll elems + uptoBulkAll spare + 1
  | .agg parts => uptoBulkAll parts + 1
  | .iface _ d => uptoBulk d + 1
  | .map entries => uptoBulkEntries entries + 1
  | .held _ => 1
def uptoBulkAll {H : Type} : List (DataW H) → Nat
  | [] => 0
  | d :: r => uptoBulk d + uptoBulkAll r
def uptoBulkEntries {H : Type} : List (Lit × DataW H) → Nat
  | [] => 0
  | x :: r => uptoBulkEntry x + uptoBulkEntries r
def uptoBulkEntry {H : Type} : Lit × DataW H → Nat
  | (.string bytes, d) => bytes.length + uptoBulk d + 1
  | (_, d) => uptoBulk d + 1
 end
def uptoSmall : (H : Type) → List (DataW H) → Bool := fun _ ds => decide (uptoBulkAll ds ≤ 1048576)
def OpenSpec.upto (s : _root_.Go.ChangeSpec) : _root_.Go.OpenSpec := { _root_.Go.OpenSpec.ofChange s with cond := some uptoSmall }

/-- 'laws.FnExactServiceMasks', WHERE WHAT IT READS IS OF BULK AT MOST 1048576: true; the input reads as it did. -/
def fnExactServiceMasksUptoRow : OpenClaim := { program := "ytkgenchldigkgaagreat", sum := "082e792192ab051527e21a628647d18435770d1fc6107af72f865c93e4b589ac", func := "loop.example/g00897/laws.FnExactServiceMasks", spec := "fnExactServiceMasks", unfollowed := true, recurses := true, apart := false, narrowed := true }
def FnExactServiceMasksUptoSaid : Prop := fnExactServiceMasksUptoRow.holds Tryz.pinned (OpenSpec.upto fnExactServiceMasksSpec)

/-- 'laws.FnExactLostRate', WHERE WHAT IT READS IS OF BULK AT MOST 1048576: true; the input reads as it did. -/
def fnExactLostRateUptoRow : OpenClaim := { program := "ytkgenchldigkgaagreat", sum := "082e792192ab051527e21a628647d18435770d1fc6107af72f865c93e4b589ac", func := "loop.example/g00897/laws.FnExactLostRate", spec := "fnExactLostRate", unfollowed := true, recurses := true, apart := false, narrowed := true }
def FnExactLostRateUptoSaid : Prop := fnExactLostRateUptoRow.holds Tryz.pinned (OpenSpec.upto fnExactLostRateSpec)

/-- 'laws.FnExactWorstPair', WHERE WHAT IT READS IS OF BULK AT MOST 1048576: true; the input reads as it did. -/
def fnExactWorstPairUptoRow : OpenClaim := { program := "ytkgenchldigkgaagreat", sum := "082e792192ab051527e21a628647d18435770d1fc6107af72f865c93e4b589ac", func := "loop.example/g00897/laws.FnExactWorstPair", spec := "fnExactWorstPair", unfollowed := true, recurses := true, apart := false, narrowed := true }
def FnExactWorstPairUptoSaid : Prop := fnExactWorstPairUptoRow.holds Tryz.pinned (OpenSpec.upto fnExactWorstPairSpec)

/-- 'laws.FnExactDropService', WHERE WHAT IT READS IS OF BULK AT MOST 1048576: true; the input reads as it did. -/
def fnExactDropServiceUptoRow : OpenClaim := { program := "ytkgenchldigkgaagreat", sum := "082e792192ab051527e21a628647d18435770d1fc6107af72f865c93e4b589ac", func := "loop.example/g00897/laws.FnExactDropService", spec := "fnExactDropService", unfollowed := true, recurses := true, apart := false, narrowed := true }
def FnExactDropServiceUptoSaid : Prop := fnExactDropServiceUptoRow.holds Tryz.pinned (OpenSpec.upto fnExactDropServiceSpec)

/-- 'laws.FnExactLosingGroups', WHERE WHAT IT READS IS OF BULK AT MOST 1048576: true; the input reads as it did. -/
def fnExactLosingGroupsUptoRow : OpenClaim := { program := "ytkgenchldigkgaagreat", sum := "082e792192ab051527e21a628647d18435770d1fc6107af72f865c93e4b589ac", func := "loop.example/g00897/laws.FnExactLosingGroups", spec := "fnExactLosingGroups", unfollowed := true, recurses := true, apart := false, narrowed := true }
def FnExactLosingGroupsUptoSaid : Prop := fnExactLosingGroupsUptoRow.holds Tryz.pinned (OpenSpec.upto fnExactLosingGroupsSpec)

/-- 'laws.FnExactStatusAfter', WHERE WHAT IT READS IS OF BULK AT MOST 1048576: true; the input reads as it did. -/
def fnExactStatusAfterUptoRow : OpenClaim := { program := "ytkgenchldigkgaagreat", sum := "082e792192ab051527e21a628647d18435770d1fc6107af72f865c93e4b589ac", func := "loop.example/g00897/laws.FnExactStatusAfter", spec := "fnExactStatusAfter", unfollowed := true, recurses := true, apart := false, narrowed := true }
def FnExactStatusAfterUptoSaid : Prop := fnExactStatusAfterUptoRow.holds Tryz.pinned (OpenSpec.upto fnExactStatusAfterSpec)

/-- 'laws.FnExactLostServices', WHERE WHAT IT READS IS OF BULK AT MOST 1048576: true; the input reads as it did. -/
def fnExactLostServicesUptoRow : OpenClaim := { program := "ytkgenchldigkgaagreat", sum := "082e792192ab051527e21a628647d18435770d1fc6107af72f865c93e4b589ac", func := "loop.example/g00897/laws.FnExactLostServices", spec := "fnExactLostServices", unfollowed := true, recurses := true, apart := false, narrowed := true }
def FnExactLostServicesUptoSaid : Prop := fnExactLostServicesUptoRow.holds Tryz.pinned (OpenSpec.upto fnExactLostServicesSpec)

/-- 'laws.FnExactActiveMasks', WHERE WHAT IT READS IS OF BULK AT MOST 1048576: true; the input reads as it did. -/
def fnExactActiveMasksUptoRow : OpenClaim := { program := "ytkgenchldigkgaagreat", sum := "082e792192ab051527e21a628647d18435770d1fc6107af72f865c93e4b589ac", func := "loop.example/g00897/laws.FnExactActiveMasks", spec := "fnExactActiveMasks", unfollowed := true, recurses := true, apart := false, narrowed := true }
def FnExactActiveMasksUptoSaid : Prop := fnExactActiveMasksUptoRow.holds Tryz.pinned (OpenSpec.upto fnExactActiveMasksSpec)

/-- 'laws.FnExactFirstLoss', WHERE WHAT IT READS IS OF BULK AT MOST 1048576: true; the input reads as it did. -/
def fnExactFirstLossUptoRow : OpenClaim := { program := "ytkgenchldigkgaagreat", sum := "082e792192ab051527e21a628647d18435770d1fc6107af72f865c93e4b589ac", func := "loop.example/g00897/laws.FnExactFirstLoss", spec := "fnExactFirstLoss", unfollowed := true, recurses := true, apart := false, narrowed := true }
def FnExactFirstLossUptoSaid : Prop := fnExactFirstLossUptoRow.holds Tryz.pinned (OpenSpec.upto fnExactFirstLossSpec)

end Rows
end Go.Proofs.YtkgenchldigkgaaGreat
