/-
  Part of the proof that the law FnExactPackDescending returns true at every input; no condition beside the row's own.
-/
import Derived.Test.YtgbifbhfdjdhbaaAc
import Derived.Test.YtgbifbhfdjdhbaaAb
import Derived.Test.YtgbifbhfdjdhbaaRows
import Derived.WalkKit
import Derived.ProofKit
import Derived.OpenShut
import Derived.JoinedCond
set_option linter.unusedSimpArgs false
set_option linter.unusedVariables false
namespace Vs
open Go Go.Proofs
theorem ok7 (ys : List AV) (h : FitsAll [(false, [.sl false [.int .i64]]), (false, [.int .i64])] ys) : Ok Try.prog 7 ys (.b true) := by
  match ys, h with
  | [a, b], ⟨h1, h2, _⟩ =>
    obtain ⟨xs, rfl, hl⟩ := ints h1
    obtain ⟨n, rfl⟩ := int1 h2
    exact w_laws_FnExactPackDescending xs n (p_FnExactPackDescending xs n (by simpa [maxLen] using hl))
end Vs
namespace Go.Proofs.Ytgbifbhfdjdhbaa.fnExactPackDescending
open Go.ChangeShapes Go.WideShapes Go.ChangeAt Go.RowKit
theorem own : ownKnob Try.prog.godebug = none := by kernel_rfl
set_option maxRecDepth 100000 in
theorem lifted (os : Os) (started : os.Started) (H : Type) (enc : TypeId × Value → H) :
    ReturnsInHanded {} Try.checked os 7 .any (Rows.fnExactPackDescendingSpec.pre6 enc Try.prog Try.f7 Rows.fnExactPackDescendingRow.domain false) (Rows.fnExactPackDescendingSpec.post enc Try.prog Try.f7 false true false false) := by
  refine returnsInHanded_of_change (C := Try.checked) own started (by kernel_rfl) Try.func7
    (ChangeSpec.witness6 (enc := enc) (C := Try.checked) false ⟨#[], #[.slice none 0 0, .int .i64 0], []⟩ 8 (by kernel_rfl) (by kernel_rfl) (by kernel_rfl) (by kernel_rfl)) ?_
  intro W base args ds gs before hval hW _ _
  exact Vs.law_calls (k := 8) (ss := [(false, [.sl false [.int .i64]]), (false, [.int .i64])]) rfl (fun ds h => by
    match ds, h with
    | [d1, d2], _ => rfl) rfl (by kernel_rfl) (by kernel_rfl) Vs.ok7 hval hW
theorem over : Rows.fnExactPackDescendingRow.holds Try.pinned (OpenSpec.ofChange Rows.fnExactPackDescendingSpec) :=
  OpenClaim.holds_of_wide 7 Try.f7 rfl rfl rfl rfl rfl rfl rfl ⟨rfl, rfl, rfl, rfl, rfl⟩ rfl rfl rfl rfl rfl (by kernel_rfl) Try.func7 (by kernel_rfl)
    (of_decide_eq_true (by kernel_rfl)) (by unfold Func.isWrapper; first | (rw [if_pos (by decide +kernel)]; kernel_rfl) | (rw [if_neg (by decide +kernel)]; exact ⟨rfl, rfl⟩))
    (fun os started H enc _ => lifted os started H enc)
theorem proved : Rows.FnExactPackDescendingSaid := over
end Go.Proofs.Ytgbifbhfdjdhbaa.fnExactPackDescending


