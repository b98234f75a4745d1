/-
  Part of the proof that the law FnExactBlockedRate returns true at every input; no condition beside the row's own.
-/
import Derived.Test.YtgbifbhfdjdhbaaAd
import Derived.Test.YtgbifbhfdjdhbaaAc
import Derived.Test.YtgbifbhfdjdhbaaRows
import Derived.WalkKit
import Derived.ProofKit
import Derived.OpenShut
import Derived.JoinedCond
set_option linter.unusedSimpArgs false
set_option linter.unusedVariables false
namespace Vs
open Go Go.Proofs
theorem ok6 (ys : List AV) (h : FitsAll [(false, [.sl true [.int .i64, .int .i64, .int .i64]]), (false, [.int .i64]), (false, [.sl true [.int .i64, .int .i64, .int .i64]])] ys) : Ok Try.prog 6 ys (.b true) := by
  match ys, h with
  | [a, b, c], ⟨h1, h2, h3, _⟩ =>
    obtain ⟨ls, rfl, hl⟩ := rec3 (e_TLink .o) (fun a b c => ⟨a, b, c⟩) (fun _ _ _ => rfl) h1
    obtain ⟨n, rfl⟩ := int1 h2
    obtain ⟨ts, rfl, ht⟩ := rec3 (e_TTributary .o) (fun a b c => ⟨a, b, c⟩) (fun _ _ _ => rfl) h3
    exact w_laws_FnExactBlockedRate ls n ts (p_FnExactBlockedRate ls n ts (by simpa [maxLen] using hl) (by simpa [maxLen] using ht))
end Vs
namespace Go.Proofs.Ytgbifbhfdjdhbaa.fnExactBlockedRate
open Go.ChangeShapes Go.WideShapes Go.ChangeAt Go.RowKit
theorem own : ownKnob Try.prog.godebug = none := by kernel_rfl
set_option maxRecDepth 100000 in
theorem lifted (os : Os) (started : os.Started) (H : Type) (enc : TypeId × Value → H) :
    ReturnsInHanded {} Try.checked os 6 .any (Rows.fnExactBlockedRateSpec.pre6 enc Try.prog Try.f6 Rows.fnExactBlockedRateRow.domain false) (Rows.fnExactBlockedRateSpec.post enc Try.prog Try.f6 false true false false) := by
  refine returnsInHanded_of_change (C := Try.checked) own started (by kernel_rfl) Try.func6
    (ChangeSpec.witness6 (enc := enc) (C := Try.checked) false ⟨#[], #[.slice none 0 0, .int .i64 0, .slice none 0 0], []⟩ 8 (by kernel_rfl) (by kernel_rfl) (by kernel_rfl) (by kernel_rfl)) ?_
  intro W base args ds gs before hval hW _ _
  exact Vs.law_calls (k := 8) (ss := [(false, [.sl true [.int .i64, .int .i64, .int .i64]]), (false, [.int .i64]), (false, [.sl true [.int .i64, .int .i64, .int .i64]])]) rfl (fun ds h => by
    match ds, h with
    | [d1, d2, d3], _ => rfl) rfl (by kernel_rfl) (by kernel_rfl) Vs.ok6 hval hW
theorem over : Rows.fnExactBlockedRateRow.holds Try.pinned (OpenSpec.ofChange Rows.fnExactBlockedRateSpec) :=
  OpenClaim.holds_of_wide 6 Try.f6 rfl rfl rfl rfl rfl rfl rfl ⟨rfl, rfl, rfl, rfl, rfl⟩ rfl rfl rfl rfl rfl (by kernel_rfl) Try.func6 (by kernel_rfl)
    (of_decide_eq_true (by kernel_rfl)) (by unfold Func.isWrapper; first | (rw [if_pos (by decide +kernel)]; kernel_rfl) | (rw [if_neg (by decide +kernel)]; exact ⟨rfl, rfl⟩))
    (fun os started H enc _ => lifted os started H enc)
theorem proved : Rows.FnExactBlockedRateSaid := over
end Go.Proofs.Ytgbifbhfdjdhbaa.fnExactBlockedRate


