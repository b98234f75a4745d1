/-
  No cell of these rows narrows 'for every input' (looked for: loops, veiled, ifaces, maps, wideKeys, modest, calm, conditions, laid).
  DERIVED. THE GIVEN ROWS OF THIS SEAT. 12 by the template 'for every input the law returns true; each argument reads behind the call as it read before'; 0 by the template 'total and deterministic' (their statements: YtgafcocdchcgeaaTotals.lean).
  GIVEN WITH THE SEED: the statements are not yours to turn. If you find one false, say at which input.
  Laid BY PROGRAM, IN A SANDBOX (cutbox-rows.mjs): the forced cells as the released guide's own fill.sh prints them over the translation 66f78296105375ae… (all of the seat's roots in one cut). By AI agents, Wed Nov 11 2026. No macro, syntax, notation, axiom, sorry.
-/
import Derived.Test.YtgafcocdchcgeaaChecked
import GoSem.Claim
import GoSem.ClaimJoined
import GoSem.ClaimMapViews
import Derived.JoinedTies
import Derived.KernelRfl
namespace Go.Proofs.Ytgafcocdchcgeaa
/- THE CELL 'sum', in the pinned program and in every row, IS THE sha256 OF THE DUMP (.gsa) THAT YtgafcocdchcgeaaProg.lean LOADS. Nothing in Lean hashes anything: it is a label: what it is worth is what the hold of that sum in a sandbox is worth. -/
noncomputable def Try.pinned : Pinned := { name := "ytgafcocdchcgeaa", sum := "66f78296105375aea488355c981a22da9230483b717a48c89ea46a92dfc16cc1", checked := Try.checked }
namespace Rows
def none {H : Type} : Left H := { results := [], args := [] }

/-- 'laws.FnExactIsValidOutage': WHATEVER THE INPUT: true; the input reads as it did. -/
def fnExactIsValidOutageSpec : ChangeSpec := { name := "fnExactIsValidOutage", fn := fun _ => fun
  | [d1, d2] => { results := [.lit (.bool true)], args := [d1, d2] }
  | _ => none }
def fnExactIsValidOutageRow : OpenClaim := { program := "ytgafcocdchcgeaa", sum := "66f78296105375aea488355c981a22da9230483b717a48c89ea46a92dfc16cc1", func := "loop.example/g00897/laws.FnExactIsValidOutage", spec := "fnExactIsValidOutage", unfollowed := true, recurses := true, apart := false }
def FnExactIsValidOutageSaid : Prop := fnExactIsValidOutageRow.holds Try.pinned (OpenSpec.ofChange fnExactIsValidOutageSpec)

/-- ITS FALSE NEIGHBOUR: 'it returns false'. Refute it at one input. -/
def fnExactIsValidOutageWrong : ChangeSpec := { name := "fnExactIsValidOutage", fn := fun _ => fun
  | [d1, d2] => { results := [.lit (.bool false)], args := [d1, d2] }
  | _ => none }
def FnExactIsValidOutageWrongFalsely : Prop := fnExactIsValidOutageRow.holds Try.pinned (OpenSpec.ofChange fnExactIsValidOutageWrong)

/-- 'laws.FnExactMeetsTarget': WHATEVER THE INPUT: true; the input reads as it did. -/
def fnExactMeetsTargetSpec : ChangeSpec := { name := "fnExactMeetsTarget", fn := fun _ => fun
  | [d1, d2, d3, d4, d5] => { results := [.lit (.bool true)], args := [d1, d2, d3, d4, d5] }
  | _ => none }
def fnExactMeetsTargetRow : OpenClaim := { program := "ytgafcocdchcgeaa", sum := "66f78296105375aea488355c981a22da9230483b717a48c89ea46a92dfc16cc1", func := "loop.example/g00897/laws.FnExactMeetsTarget", spec := "fnExactMeetsTarget", unfollowed := true, recurses := true, apart := false }
def FnExactMeetsTargetSaid : Prop := fnExactMeetsTargetRow.holds Try.pinned (OpenSpec.ofChange fnExactMeetsTargetSpec)

/-- ITS FALSE NEIGHBOUR: 'it returns false'. Refute it at one input. -/
def fnExactMeetsTargetWrong : ChangeSpec := { name := "fnExactMeetsTarget", fn := fun _ => fun
  | [d1, d2, d3, d4, d5] => { results := [.lit (.bool false)], args := [d1, d2, d3, d4, d5] }
  | _ => none }
def FnExactMeetsTargetWrongFalsely : Prop := fnExactMeetsTargetRow.holds Try.pinned (OpenSpec.ofChange fnExactMeetsTargetWrong)

/-- 'laws.FnExactStateWeight': WHATEVER THE INPUT: true; the input reads as it did. -/
def fnExactStateWeightSpec : ChangeSpec := { name := "fnExactStateWeight", fn := fun _ => fun
  | [d1, d2, d3] => { results := [.lit (.bool true)], args := [d1, d2, d3] }
  | _ => none }
def fnExactStateWeightRow : OpenClaim := { program := "ytgafcocdchcgeaa", sum := "66f78296105375aea488355c981a22da9230483b717a48c89ea46a92dfc16cc1", func := "loop.example/g00897/laws.FnExactStateWeight", spec := "fnExactStateWeight", unfollowed := true, recurses := true, apart := false }
def FnExactStateWeightSaid : Prop := fnExactStateWeightRow.holds Try.pinned (OpenSpec.ofChange fnExactStateWeightSpec)

/-- ITS FALSE NEIGHBOUR: 'it returns false'. Refute it at one input. -/
def fnExactStateWeightWrong : ChangeSpec := { name := "fnExactStateWeight", fn := fun _ => fun
  | [d1, d2, d3] => { results := [.lit (.bool false)], args := [d1, d2, d3] }
  | _ => none }
def FnExactStateWeightWrongFalsely : Prop := fnExactStateWeightRow.holds Try.pinned (OpenSpec.ofChange fnExactStateWeightWrong)

/-- 'laws.FnExactNetworkAvailability': WHATEVER THE INPUT: true; the input reads as it did. -/
def fnExactNetworkAvailabilitySpec : ChangeSpec := { name := "fnExactNetworkAvailability", fn := fun _ => fun
  | [d1, d2] => { results := [.lit (.bool true)], args := [d1, d2] }
  | _ => none }
def fnExactNetworkAvailabilityRow : OpenClaim := { program := "ytgafcocdchcgeaa", sum := "66f78296105375aea488355c981a22da9230483b717a48c89ea46a92dfc16cc1", func := "loop.example/g00897/laws.FnExactNetworkAvailability", spec := "fnExactNetworkAvailability", unfollowed := true, recurses := true, apart := false }
def FnExactNetworkAvailabilitySaid : Prop := fnExactNetworkAvailabilityRow.holds Try.pinned (OpenSpec.ofChange fnExactNetworkAvailabilitySpec)

/-- ITS FALSE NEIGHBOUR: 'it returns false'. Refute it at one input. -/
def fnExactNetworkAvailabilityWrong : ChangeSpec := { name := "fnExactNetworkAvailability", fn := fun _ => fun
  | [d1, d2] => { results := [.lit (.bool false)], args := [d1, d2] }
  | _ => none }
def FnExactNetworkAvailabilityWrongFalsely : Prop := fnExactNetworkAvailabilityRow.holds Try.pinned (OpenSpec.ofChange fnExactNetworkAvailabilityWrong)

/-- 'laws.FnExactConnectionAvailability': WHATEVER THE INPUT: true; the input reads as it did. -/
def fnExactConnectionAvailabilitySpec : ChangeSpec := { name := "fnExactConnectionAvailability", fn := fun _ => fun
  | [d1, d2, d3, d4] => { results := [.lit (.bool true)], args := [d1, d2, d3, d4] }
  | _ => none }
def fnExactConnectionAvailabilityRow : OpenClaim := { program := "ytgafcocdchcgeaa", sum := "66f78296105375aea488355c981a22da9230483b717a48c89ea46a92dfc16cc1", func := "loop.example/g00897/laws.FnExactConnectionAvailability", spec := "fnExactConnectionAvailability", unfollowed := true, recurses := true, apart := false }
def FnExactConnectionAvailabilitySaid : Prop := fnExactConnectionAvailabilityRow.holds Try.pinned (OpenSpec.ofChange fnExactConnectionAvailabilitySpec)

/-- ITS FALSE NEIGHBOUR: 'it returns false'. Refute it at one input. -/
def fnExactConnectionAvailabilityWrong : ChangeSpec := { name := "fnExactConnectionAvailability", fn := fun _ => fun
  | [d1, d2, d3, d4] => { results := [.lit (.bool false)], args := [d1, d2, d3, d4] }
  | _ => none }
def FnExactConnectionAvailabilityWrongFalsely : Prop := fnExactConnectionAvailabilityRow.holds Try.pinned (OpenSpec.ofChange fnExactConnectionAvailabilityWrong)

/-- 'laws.FnImportance': WHATEVER THE INPUT: true; the input reads as it did. -/
def fnImportanceSpec : ChangeSpec := { name := "fnImportance", fn := fun _ => fun
  | [d] => { results := [.lit (.bool true)], args := [d] }
  | _ => none }
def fnImportanceRow : OpenClaim := { program := "ytgafcocdchcgeaa", sum := "66f78296105375aea488355c981a22da9230483b717a48c89ea46a92dfc16cc1", func := "loop.example/g00897/laws.FnImportance", spec := "fnImportance", unfollowed := true, recurses := true, apart := false }
def FnImportanceSaid : Prop := fnImportanceRow.holds Try.pinned (OpenSpec.ofChange fnImportanceSpec)

/-- ITS FALSE NEIGHBOUR: 'it returns false'. Refute it at one input. -/
def fnImportanceWrong : ChangeSpec := { name := "fnImportance", fn := fun _ => fun
  | [d] => { results := [.lit (.bool false)], args := [d] }
  | _ => none }
def FnImportanceWrongFalsely : Prop := fnImportanceRow.holds Try.pinned (OpenSpec.ofChange fnImportanceWrong)

/-- 'laws.FnExactGroupImportance': WHATEVER THE INPUT: true; the input reads as it did. -/
def fnExactGroupImportanceSpec : ChangeSpec := { name := "fnExactGroupImportance", fn := fun _ => fun
  | [d1, d2, d3, d4, d5] => { results := [.lit (.bool true)], args := [d1, d2, d3, d4, d5] }
  | _ => none }
def fnExactGroupImportanceRow : OpenClaim := { program := "ytgafcocdchcgeaa", sum := "66f78296105375aea488355c981a22da9230483b717a48c89ea46a92dfc16cc1", func := "loop.example/g00897/laws.FnExactGroupImportance", spec := "fnExactGroupImportance", unfollowed := true, recurses := true, apart := false }
def FnExactGroupImportanceSaid : Prop := fnExactGroupImportanceRow.holds Try.pinned (OpenSpec.ofChange fnExactGroupImportanceSpec)

/-- ITS FALSE NEIGHBOUR: 'it returns false'. Refute it at one input. -/
def fnExactGroupImportanceWrong : ChangeSpec := { name := "fnExactGroupImportance", fn := fun _ => fun
  | [d1, d2, d3, d4, d5] => { results := [.lit (.bool false)], args := [d1, d2, d3, d4, d5] }
  | _ => none }
def FnExactGroupImportanceWrongFalsely : Prop := fnExactGroupImportanceRow.holds Try.pinned (OpenSpec.ofChange fnExactGroupImportanceWrong)

/-- 'laws.FnExactLikeliestCut': WHATEVER THE INPUT: true; the input reads as it did. -/
def fnExactLikeliestCutSpec : ChangeSpec := { name := "fnExactLikeliestCut", fn := fun _ => fun
  | [d1, d2, d3, d4] => { results := [.lit (.bool true)], args := [d1, d2, d3, d4] }
  | _ => none }
def fnExactLikeliestCutRow : OpenClaim := { program := "ytgafcocdchcgeaa", sum := "66f78296105375aea488355c981a22da9230483b717a48c89ea46a92dfc16cc1", func := "loop.example/g00897/laws.FnExactLikeliestCut", spec := "fnExactLikeliestCut", unfollowed := true, recurses := true, apart := false }
def FnExactLikeliestCutSaid : Prop := fnExactLikeliestCutRow.holds Try.pinned (OpenSpec.ofChange fnExactLikeliestCutSpec)

/-- ITS FALSE NEIGHBOUR: 'it returns false'. Refute it at one input. -/
def fnExactLikeliestCutWrong : ChangeSpec := { name := "fnExactLikeliestCut", fn := fun _ => fun
  | [d1, d2, d3, d4] => { results := [.lit (.bool false)], args := [d1, d2, d3, d4] }
  | _ => none }
def FnExactLikeliestCutWrongFalsely : Prop := fnExactLikeliestCutRow.holds Try.pinned (OpenSpec.ofChange fnExactLikeliestCutWrong)

/-- 'laws.FnLikeliest': WHATEVER THE INPUT: true; the input reads as it did. -/
def fnLikeliestSpec : ChangeSpec := { name := "fnLikeliest", fn := fun _ => fun
  | [d] => { results := [.lit (.bool true)], args := [d] }
  | _ => none }
def fnLikeliestRow : OpenClaim := { program := "ytgafcocdchcgeaa", sum := "66f78296105375aea488355c981a22da9230483b717a48c89ea46a92dfc16cc1", func := "loop.example/g00897/laws.FnLikeliest", spec := "fnLikeliest", unfollowed := true, recurses := true, apart := false }
def FnLikeliestSaid : Prop := fnLikeliestRow.holds Try.pinned (OpenSpec.ofChange fnLikeliestSpec)

/-- ITS FALSE NEIGHBOUR: 'it returns false'. Refute it at one input. -/
def fnLikeliestWrong : ChangeSpec := { name := "fnLikeliest", fn := fun _ => fun
  | [d] => { results := [.lit (.bool false)], args := [d] }
  | _ => none }
def FnLikeliestWrongFalsely : Prop := fnLikeliestRow.holds Try.pinned (OpenSpec.ofChange fnLikeliestWrong)

/-- 'laws.FnExactPairAvailability': WHATEVER THE INPUT: true; the input reads as it did. -/
def fnExactPairAvailabilitySpec : ChangeSpec := { name := "fnExactPairAvailability", fn := fun _ => fun
  | [d1, d2, d3, d4] => { results := [.lit (.bool true)], args := [d1, d2, d3, d4] }
  | _ => none }
def fnExactPairAvailabilityRow : OpenClaim := { program := "ytgafcocdchcgeaa", sum := "66f78296105375aea488355c981a22da9230483b717a48c89ea46a92dfc16cc1", func := "loop.example/g00897/laws.FnExactPairAvailability", spec := "fnExactPairAvailability", unfollowed := true, recurses := true, apart := false }
def FnExactPairAvailabilitySaid : Prop := fnExactPairAvailabilityRow.holds Try.pinned (OpenSpec.ofChange fnExactPairAvailabilitySpec)

/-- ITS FALSE NEIGHBOUR: 'it returns false'. Refute it at one input. -/
def fnExactPairAvailabilityWrong : ChangeSpec := { name := "fnExactPairAvailability", fn := fun _ => fun
  | [d1, d2, d3, d4] => { results := [.lit (.bool false)], args := [d1, d2, d3, d4] }
  | _ => none }
def FnExactPairAvailabilityWrongFalsely : Prop := fnExactPairAvailabilityRow.holds Try.pinned (OpenSpec.ofChange fnExactPairAvailabilityWrong)

/-- 'laws.FnExactRouteAvailability': WHATEVER THE INPUT: true; the input reads as it did. -/
def fnExactRouteAvailabilitySpec : ChangeSpec := { name := "fnExactRouteAvailability", fn := fun _ => fun
  | [d1, d2, d3] => { results := [.lit (.bool true)], args := [d1, d2, d3] }
  | _ => none }
def fnExactRouteAvailabilityRow : OpenClaim := { program := "ytgafcocdchcgeaa", sum := "66f78296105375aea488355c981a22da9230483b717a48c89ea46a92dfc16cc1", func := "loop.example/g00897/laws.FnExactRouteAvailability", spec := "fnExactRouteAvailability", unfollowed := true, recurses := true, apart := false }
def FnExactRouteAvailabilitySaid : Prop := fnExactRouteAvailabilityRow.holds Try.pinned (OpenSpec.ofChange fnExactRouteAvailabilitySpec)

/-- ITS FALSE NEIGHBOUR: 'it returns false'. Refute it at one input. -/
def fnExactRouteAvailabilityWrong : ChangeSpec := { name := "fnExactRouteAvailability", fn := fun _ => fun
  | [d1, d2, d3] => { results := [.lit (.bool false)], args := [d1, d2, d3] }
  | _ => none }
def FnExactRouteAvailabilityWrongFalsely : Prop := fnExactRouteAvailabilityRow.holds Try.pinned (OpenSpec.ofChange fnExactRouteAvailabilityWrong)

/-- 'laws.FnAvailability': WHATEVER THE INPUT: true; the input reads as it did. -/
def fnAvailabilitySpec : ChangeSpec := { name := "fnAvailability", fn := fun _ => fun
  | [d] => { results := [.lit (.bool true)], args := [d] }
  | _ => none }
def fnAvailabilityRow : OpenClaim := { program := "ytgafcocdchcgeaa", sum := "66f78296105375aea488355c981a22da9230483b717a48c89ea46a92dfc16cc1", func := "loop.example/g00897/laws.FnAvailability", spec := "fnAvailability", unfollowed := true, recurses := true, apart := false }
def FnAvailabilitySaid : Prop := fnAvailabilityRow.holds Try.pinned (OpenSpec.ofChange fnAvailabilitySpec)

/-- ITS FALSE NEIGHBOUR: 'it returns false'. Refute it at one input. -/
def fnAvailabilityWrong : ChangeSpec := { name := "fnAvailability", fn := fun _ => fun
  | [d] => { results := [.lit (.bool false)], args := [d] }
  | _ => none }
def FnAvailabilityWrongFalsely : Prop := fnAvailabilityRow.holds Try.pinned (OpenSpec.ofChange fnAvailabilityWrong)

/- THE SECOND FORM. 'bulk': how many values and letters a reading holds, each counted each time it is reached (what is shared counts as often as it is met; a slice's spare places count too). A statement '..UptoSaid' is the law's where the arguments, and the package variables that the reading takes, are together of bulk at most 1048576: NARROWER than '..Said'. Prove '..Said' where nothing that the law and all that it calls make is longer than what came in: it says more and counts as full. Else prove '..UptoSaid'. A law counts once. -/
mutual
def uptoBulk {H : Type} : DataW H → Nat
  | .lit (.string bytes) => bytes.length + 1
  | .lit _ => 1
  | .nil => 1
  | .ptr d => uptoBulk d + 1
  | .slice elems spare => uptoBulkAll elems + uptoBulkAll spare + 1
  | .agg parts => uptoBulkAll parts + 1
  | .iface _ d => uptoBulk d + 1
  | .map entries => uptoBulkEntries entries + 1
  | .held _ => 1
def uptoBulkAll {H : Type} : List (DataW H) → Nat
  | [] => 0
  | d :: r => uptoBulk d + uptoBulkAll r
def uptoBulkEntries {H : Type} : List (Lit × DataW H) → Nat
  | [] => 0
  | x :: r => uptoBulkEntry x + uptoBulkEntries r
def uptoBulkEntry {H : Type} : Lit × DataW H → Nat
  | (.string bytes, d) => bytes.length + uptoBulk d + 1
  | (_, d) => uptoBulk d + 1
 end
def uptoSmall : (H : Type) → List (DataW H) → Bool := fun _ ds => decide (uptoBulkAll ds ≤ 1048576)
def OpenSpec.upto (s : _root_.Go.ChangeSpec) : _root_.Go.OpenSpec := { _root_.Go.OpenSpec.ofChange s with cond := some uptoSmall }

/-- 'laws.FnExactIsValidOutage', WHERE WHAT IT READS IS OF BULK AT MOST 1048576: true; the input reads as it did. -/
def fnExactIsValidOutageUptoRow : OpenClaim := { program := "ytgafcocdchcgeaa", sum := "66f78296105375aea488355c981a22da9230483b717a48c89ea46a92dfc16cc1", func := "loop.example/g00897/laws.FnExactIsValidOutage", spec := "fnExactIsValidOutage", unfollowed := true, recurses := true, apart := false, narrowed := true }
def FnExactIsValidOutageUptoSaid : Prop := fnExactIsValidOutageUptoRow.holds Try.pinned (OpenSpec.upto fnExactIsValidOutageSpec)

/-- 'laws.FnExactMeetsTarget', WHERE WHAT IT READS IS OF BULK AT MOST 1048576: true; the input reads as it did. -/
def fnExactMeetsTargetUptoRow : OpenClaim := { program := "ytgafcocdchcgeaa", sum := "66f78296105375aea488355c981a22da9230483b717a48c89ea46a92dfc16cc1", func := "loop.example/g00897/laws.FnExactMeetsTarget", spec := "fnExactMeetsTarget", unfollowed := true, recurses := true, apart := false, narrowed := true }
def FnExactMeetsTargetUptoSaid : Prop := fnExactMeetsTargetUptoRow.holds Try.pinned (OpenSpec.upto fnExactMeetsTargetSpec)

/-- 'laws.FnExactStateWeight', WHERE WHAT IT READS IS OF BULK AT MOST 1048576: true; the input reads as it did. -/
def fnExactStateWeightUptoRow : OpenClaim := { program := "ytgafcocdchcgeaa", sum := "66f78296105375aea488355c981a22da9230483b717a48c89ea46a92dfc16cc1", func := "loop.example/g00897/laws.FnExactStateWeight", spec := "fnExactStateWeight", unfollowed := true, recurses := true, apart := false, narrowed := true }
def FnExactStateWeightUptoSaid : Prop := fnExactStateWeightUptoRow.holds Try.pinned (OpenSpec.upto fnExactStateWeightSpec)

/-- 'laws.FnExactNetworkAvailability', WHERE WHAT IT READS IS OF BULK AT MOST 1048576: true; the input reads as it did. -/
def fnExactNetworkAvailabilityUptoRow : OpenClaim := { program := "ytgafcocdchcgeaa", sum := "66f78296105375aea488355c981a22da9230483b717a48c89ea46a92dfc16cc1", func := "loop.example/g00897/laws.FnExactNetworkAvailability", spec := "fnExactNetworkAvailability", unfollowed := true, recurses := true, apart := false, narrowed := true }
def FnExactNetworkAvailabilityUptoSaid : Prop := fnExactNetworkAvailabilityUptoRow.holds Try.pinned (OpenSpec.upto fnExactNetworkAvailabilitySpec)

/-- 'laws.FnExactConnectionAvailability', WHERE WHAT IT READS IS OF BULK AT MOST 1048576: true; the input reads as it did. -/
def fnExactConnectionAvailabilityUptoRow : OpenClaim := { program := "ytgafcocdchcgeaa", sum := "66f78296105375aea488355c981a22da9230483b717a48c89ea46a92dfc16cc1", func := "loop.example/g00897/laws.FnExactConnectionAvailability", spec := "fnExactConnectionAvailability", unfollowed := true, recurses := true, apart := false, narrowed := true }
def FnExactConnectionAvailabilityUptoSaid : Prop := fnExactConnectionAvailabilityUptoRow.holds Try.pinned (OpenSpec.upto fnExactConnectionAvailabilitySpec)

/-- 'laws.FnImportance', WHERE WHAT IT READS IS OF BULK AT MOST 1048576: true; the input reads as it did. -/
def fnImportanceUptoRow : OpenClaim := { program := "ytgafcocdchcgeaa", sum := "66f78296105375aea488355c981a22da9230483b717a48c89ea46a92dfc16cc1", func := "loop.example/g00897/laws.FnImportance", spec := "fnImportance", unfollowed := true, recurses := true, apart := false, narrowed := true }
def FnImportanceUptoSaid : Prop := fnImportanceUptoRow.holds Try.pinned (OpenSpec.upto fnImportanceSpec)

/-- 'laws.FnExactGroupImportance', WHERE WHAT IT READS IS OF BULK AT MOST 1048576: true; the input reads as it did. -/
def fnExactGroupImportanceUptoRow : OpenClaim := { program := "ytgafcocdchcgeaa", sum := "66f78296105375aea488355c981a22da9230483b717a48c89ea46a92dfc16cc1", func := "loop.example/g00897/laws.FnExactGroupImportance", spec := "fnExactGroupImportance", unfollowed := true, recurses := true, apart := false, narrowed := true }
def FnExactGroupImportanceUptoSaid : Prop := fnExactGroupImportanceUptoRow.holds Try.pinned (OpenSpec.upto fnExactGroupImportanceSpec)

/-- 'laws.FnExactLikeliestCut', WHERE WHAT IT READS IS OF BULK AT MOST 1048576: true; the input reads as it did. -/
def fnExactLikeliestCutUptoRow : OpenClaim := { program := "ytgafcocdchcgeaa", sum := "66f78296105375aea488355c981a22da9230483b717a48c89ea46a92dfc16cc1", func := "loop.example/g00897/laws.FnExactLikeliestCut", spec := "fnExactLikeliestCut", unfollowed := true, recurses := true, apart := false, narrowed := true }
def FnExactLikeliestCutUptoSaid : Prop := fnExactLikeliestCutUptoRow.holds Try.pinned (OpenSpec.upto fnExactLikeliestCutSpec)

/-- 'laws.FnLikeliest', WHERE WHAT IT READS IS OF BULK AT MOST 1048576: true; the input reads as it did. -/
def fnLikeliestUptoRow : OpenClaim := { program := "ytgafcocdchcgeaa", sum := "66f78296105375aea488355c981a22da9230483b717a48c89ea46a92dfc16cc1", func := "loop.example/g00897/laws.FnLikeliest", spec := "fnLikeliest", unfollowed := true, recurses := true, apart := false, narrowed := true }
def FnLikeliestUptoSaid : Prop := fnLikeliestUptoRow.holds Try.pinned (OpenSpec.upto fnLikeliestSpec)

/-- 'laws.FnExactPairAvailability', WHERE WHAT IT READS IS OF BULK AT MOST 1048576: true; the input reads as it did. -/
def fnExactPairAvailabilityUptoRow : OpenClaim := { program := "ytgafcocdchcgeaa", sum := "66f78296105375aea488355c981a22da9230483b717a48c89ea46a92dfc16cc1", func := "loop.example/g00897/laws.FnExactPairAvailability", spec := "fnExactPairAvailability", unfollowed := true, recurses := true, apart := false, narrowed := true }
def FnExactPairAvailabilityUptoSaid : Prop := fnExactPairAvailabilityUptoRow.holds Try.pinned (OpenSpec.upto fnExactPairAvailabilitySpec)

/-- 'laws.FnExactRouteAvailability', WHERE WHAT IT READS IS OF BULK AT MOST 1048576: true; the input reads as it did. -/
def fnExactRouteAvailabilityUptoRow : OpenClaim := { program := "ytgafcocdchcgeaa", sum := "66f78296105375aea488355c981a22da9230483b717a48c89ea46a92dfc16cc1", func := "loop.example/g00897/laws.FnExactRouteAvailability", spec := "fnExactRouteAvailability", unfollowed := true, recurses := true, apart := false, narrowed := true }
def FnExactRouteAvailabilityUptoSaid : Prop := fnExactRouteAvailabilityUptoRow.holds Try.pinned (OpenSpec.upto fnExactRouteAvailabilitySpec)

/-- 'laws.FnAvailability', WHERE WHAT IT READS IS OF BULK AT MOST 1048576: true; the input reads as it did. -/
def fnAvailabilityUptoRow : OpenClaim := { program := "ytgafcocdchcgeaa", sum := "66f78296105375aea488355c981a22da9230483b717a48c89ea46a92dfc16cc1", func := "loop.example/g00897/laws.FnAvailability", spec := "fnAvailability", unfollowed := true, recurses := true, apart := false, narrowed := true }
def FnAvailabilityUptoSaid : Prop := fnAvailabilityUptoRow.holds Try.pinned (OpenSpec.upto fnAvailabilitySpec)

end Rows
end Go.Proofs.Ytgafcocdchcgeaa
