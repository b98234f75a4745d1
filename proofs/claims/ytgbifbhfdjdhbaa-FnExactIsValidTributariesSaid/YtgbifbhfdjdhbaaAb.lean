/-
  Part of the proof that the law FnExactIsValidTributaries returns true at every input; no condition beside the row's own.
-/
import Derived.Test.YtgbifbhfdjdhbaaAa
import Derived.Test.YtgbifbhfdjdhbaaFd
set_option linter.unusedSimpArgs false
set_option linter.unusedVariables false
namespace Vs
open Go
def wi (x a b : Int) : Bool := decide (a ≤ x) && decide (x ≤ b)
theorem p_within (x a b : Int) : M_impl_within x a b = some (wi x a b) := by
  unfold M_impl_within wi; by_cases h : a ≤ x <;> simp [h]
theorem p_l1In (x a b : Int) : M_spec_l1In x a b = some (wi x a b) := by
  unfold M_spec_l1In wi; by_cases h : a ≤ x <;> simp [h]
def ends (a b n : Int) : Bool := wi a 0 (IntKind.wrap .i64 (n - 1)) && wi b 0 (IntKind.wrap .i64 (n - 1)) && a != b
theorem p_areEnds (a b n : Int) : M_impl_areEnds a b n = some (ends a b n) := by
  unfold M_impl_areEnds ends; simp only [p_within, Option.bind_some]
  cases wi a 0 (IntKind.wrap .i64 (n - 1)) <;> cases wi b 0 (IntKind.wrap .i64 (n - 1)) <;> simp
theorem p_l18Pair (a b n : Int) : M_spec_l18Pair a b n = some (ends a b n) := by
  unfold M_spec_l18Pair ends; simp only [p_l1In, Option.bind_some]
  cases wi a 0 (IntKind.wrap .i64 (n - 1)) <;> cases wi b 0 (IntKind.wrap .i64 (n - 1)) <;> simp
def trOk (n : Int) (t : TTributary) : Bool := ends t.From t.To n && wi t.Rate 1 1000
theorem p_IsValidTributaries_c1 (t : TTributary) (n : Int) : M_impl_IsValidTributaries_c1 t n = some (!trOk n t) := by
  unfold M_impl_IsValidTributaries_c1 trOk; simp only [p_areEnds, p_within, Option.bind_some]
  cases ends t.From t.To n <;> simp
theorem p_IndexFunc_Tributary (xs : List TTributary) (f : TTributary → Option Bool) (p : TTributary → Bool) (hf : ∀ x, f x = some (p x)) (hl : xs.length < 2 ^ 62) :
    ∃ r, M_slices_IndexFunc_Tributary xs f = some r ∧ (decide (0 ≤ r) = xs.any p) := by
  have key : iter (M_slices_IndexFunc_TributaryL1 xs f) N0 0 = some (walkL (fun i x (_ : Unit) => if p x then Sum.inr (Sum.inr (i : Int)) else .inl ()) (fun _ => Sum.inl ()) 0 xs ()) := by
    refine iter_list xs (fun i (_ : Unit) => (i : Int)) _ _ (fun _ _ => True) (fun i a x hx _ => ?_) (fun a _ => ?_) () trivial (by omega)
    · have hlt := (List.getElem?_eq_some_iff.1 hx).1
      simp only [M_slices_IndexFunc_TributaryL1, geti_nat, hx, hf, Option.bind_some]
      have : decide ((i : Int) < xs.length) = true := by simp [hlt]
      rw [this]
      cases h : p x
      · refine .inl ⟨(), by simp, trivial, ?_⟩
        simp; rw [w64_eq (by omega) (by omega)]
      · exact .inr ⟨_, by simp; rfl, by simp⟩
    · simp [M_slices_IndexFunc_TributaryL1]
  unfold M_slices_IndexFunc_Tributary
  rw [key]
  have gen : ∀ (ys : List TTributary) (i : Nat), (∃ k : Nat, walkL (fun i x (_ : Unit) => if p x then Sum.inr (Sum.inr (i : Int)) else .inl ()) (fun _ => (Sum.inl () : Unit ⊕ Int)) i ys () = .inr (k : Int) ∧ ys.any p = true) ∨
      (walkL (fun i x (_ : Unit) => if p x then Sum.inr (Sum.inr (i : Int)) else .inl ()) (fun _ => (Sum.inl () : Unit ⊕ Int)) i ys () = .inl () ∧ ys.any p = false) := by
    intro ys
    induction ys with
    | nil => intro i; right; simp [walkL]
    | cons y ys ih =>
      intro i
      by_cases h : p y = true
      · left; exact ⟨i, by simp [walkL, h], by simp [h]⟩
      · simp only [Bool.not_eq_true] at h
        simp only [walkL, h, List.any_cons, Bool.false_or]
        exact ih (i + 1)
  rcases gen xs 0 with ⟨k, h1, h2⟩ | ⟨h1, h2⟩
  · rw [h1]; exact ⟨k, by simp, by rw [h2]; simp⟩
  · rw [h1]; exact ⟨-1, by simp, by rw [h2]; simp⟩
theorem p_ContainsFunc_Tributary (xs : List TTributary) (f : TTributary → Option Bool) (p : TTributary → Bool) (hf : ∀ x, f x = some (p x)) (hl : xs.length < 2 ^ 62) :
    M_slices_ContainsFunc_Tributary xs f = some (xs.any p) := by
  unfold M_slices_ContainsFunc_Tributary
  obtain ⟨r, h1, h2⟩ := p_IndexFunc_Tributary xs f p hf hl
  simp [h1, h2]
def tribs (list : List TTributary) (n : Int) : Bool := wi n 2 8 && decide (list.length ≤ 12) && !list.any fun t => !trOk n t
theorem p_impl_IsValidTributaries (xs : List TTributary) (n : Int) (hl : xs.length < 2 ^ 62) : M_impl_IsValidTributaries xs n = some (tribs xs n) := by
  unfold M_impl_IsValidTributaries tribs
  simp only [p_within, Option.bind_some, p_ContainsFunc_Tributary xs (fun x0 => M_impl_IsValidTributaries_c1 x0 n) (fun t => !trOk n t) (fun x => p_IsValidTributaries_c1 x n) hl]
  have : decide ((xs.length : Int) ≤ 12) = decide (xs.length ≤ 12) := by simp; omega
  rw [this]
  cases wi n 2 8 <;> cases decide (xs.length ≤ 12) <;> simp
theorem p_spec_IsValidTributaries (xs : List TTributary) (n : Int) (hl : xs.length < 2 ^ 62) : M_spec_IsValidTributaries xs n = some (tribs xs n) := by
  unfold M_spec_IsValidTributaries M_spec_l18Good
  have step : ∀ (i : Nat) x, xs[i]? = some x → M_spec_l18GoodL1 xs n i = some (if i ≤ 12 then (if !trOk n x then .inr (.inr false) else .inl ((i + 1 : Nat) : Int)) else .inr (.inl ())) := by
    intro i x hx
    have hlt := (List.getElem?_eq_some_iff.1 hx).1
    simp only [M_spec_l18GoodL1, geti_nat, hx, Option.bind_some, p_l18Pair, p_l1In, trOk]
    have h1 : decide ((i : Int) < xs.length) = true := by simp [hlt]
    rw [h1]
    by_cases h2 : i ≤ 12
    · have : decide ((i : Int) ≤ 12) = true := by simp; omega
      simp only [cond_true, Option.bind_some, this, h2, if_true]
      rw [w64_eq (by omega) (by omega)]
      rcases bt (ends x.From x.To n) with e1 | e1 <;> rcases bt (wi x.Rate 1 1000) with e2 | e2 <;> simp [e1, e2]
    · have : decide ((i : Int) ≤ 12) = false := by simp; omega
      simp [this, h2]
  have key : iter (M_spec_l18GoodL1 xs n) N0 0 = some (walkL (fun i x (_ : Unit) => if i ≤ 12 then (if !trOk n x then Sum.inr (Sum.inr false) else .inl ()) else .inr (.inl ())) (fun _ => Sum.inl ()) 0 xs ()) := by
    refine iter_list xs (fun i (_ : Unit) => (i : Int)) _ _ (fun _ _ => True) (fun i a x hx _ => ?_) (fun a _ => ?_) () trivial (by omega)
    · rw [step i x hx]
      by_cases h2 : i ≤ 12
      · cases trOk n x
        · exact .inr ⟨_, by simp [h2]; rfl, by simp [h2]⟩
        · exact .inl ⟨(), by simp [h2], trivial, by simp [h2]⟩
      · exact .inr ⟨_, by simp [h2]; rfl, by simp [h2]⟩
    · simp [M_spec_l18GoodL1]
  rw [key]
  have gen : ∀ (ys : List TTributary) (i : Nat), walkL (fun i x (_ : Unit) => if i ≤ 12 then (if !trOk n x then Sum.inr (Sum.inr false) else .inl ()) else .inr (.inl ())) (fun _ => (Sum.inl () : Unit ⊕ Bool)) i ys () = .inr false ∧ (ys.any fun t => !trOk n t) = true ∨
      walkL (fun i x (_ : Unit) => if i ≤ 12 then (if !trOk n x then Sum.inr (Sum.inr false) else .inl ()) else .inr (.inl ())) (fun _ => (Sum.inl () : Unit ⊕ Bool)) i ys () = .inl () ∧ (i + ys.length ≤ 13 → (ys.any fun t => !trOk n t) = false) := by
    intro ys
    induction ys with
    | nil => intro i; right; simp [walkL]
    | cons y ys ih =>
      intro i
      simp only [walkL, List.any_cons, List.length_cons]
      by_cases h2 : i ≤ 12
      · cases h : trOk n y
        · left; simp [h2]
        · simp only [h2, if_true, Bool.not_true, Bool.false_eq_true, if_false, Bool.false_or]
          rcases ih (i + 1) with ⟨a, b⟩ | ⟨a, b⟩
          · exact .inl ⟨a, b⟩
          · exact .inr ⟨a, fun h => b (by omega)⟩
      · right; simp only [h2, if_false]; exact ⟨trivial, fun h => by omega⟩
  have hd : decide ((xs.length : Int) ≤ 12) = decide (xs.length ≤ 12) := by simp; omega
  rcases gen xs 0 with ⟨h1, h2⟩ | ⟨h1, h2⟩
  · rw [h1]; simp [tribs, h2]
  · rw [h1]
    simp only [Option.bind_some, p_l1In, tribs, hd]
    by_cases h3 : xs.length ≤ 12
    · rw [h2 (by omega)]; cases wi n 2 8 <;> simp [h3]
    · cases wi n 2 8 <;> simp [h3]
theorem p_sz (xs : List TTributary) (hl : xs.length ≤ 9223372036854775807) : M_laws_szTributaryS xs 1048576 = some (if (1048576 : Int) - xs.length < 0 then (-1 : Int) else (1048576 : Int) - xs.length) := by
  unfold M_laws_szTributaryS; rw [w64_eq (by omega) (by omega)]
  simp [cond_ite]; split <;> rfl
theorem p_toTributary (x : TTributary) : M_laws_toTributary x = some x := by unfold M_laws_toTributary; rfl
theorem p_toTributaryS (xs : List TTributary) (hl : xs.length ≤ 1048576) : M_laws_toTributaryS xs = some xs := by
  unfold M_laws_toTributaryS
  have key := iter_copy (f := M_laws_toTributarySL1 xs) xs id (List.replicate (xs.length : Int).toNat ⟨0, 0, 0⟩) (by simp) (fun i l x y hx hy hll => by
    have hlt := (List.getElem?_eq_some_iff.1 hx).1
    have h1 : decide ((i : Int) < xs.length) = true := by simp [hlt]
    simp only [M_laws_toTributarySL1, h1, cond_true, geti_nat, hx, Option.bind_some, p_toTributary, chk_nat (show i < l.length by omega), hy, bnd, id]
    rw [w64_eq (by omega) (by omega)]; rfl) (fun l => by simp [M_laws_toTributarySL1]) (by omega)
  rw [grd_t (by omega)]
  simp only [Option.bind_some, bnd]
  rw [key]; simp
theorem p_eqTributary (x y : TTributary) : M_laws_eqTributary x y = some (decide (x = y)) := by
  unfold M_laws_eqTributary
  obtain ⟨a, b, c⟩ := x
  obtain ⟨a', b', c'⟩ := y
  by_cases h1 : a = a' <;> by_cases h2 : b = b' <;> by_cases h3 : c = c' <;> simp [h1, h2, h3, cond_ite]
theorem p_eqTributaryS (xs ys : List TTributary) (hl : xs.length ≤ 1048576) : M_laws_eqTributaryS xs ys = some (decide (xs = ys)) := by
  unfold M_laws_eqTributaryS
  by_cases h : xs.length = ys.length
  · have key := iter_eq (f := M_laws_eqTributarySL1 xs ys) xs ys (fun x y => decide (x = y)) h (fun i x y hx hy => by
      have hlt := (List.getElem?_eq_some_iff.1 hx).1
      have h1 : decide ((i : Int) < xs.length) = true := by simp [hlt]
      simp only [M_laws_eqTributarySL1, h1, cond_true, geti_nat, hx, hy, Option.bind_some, p_eqTributary]
      rw [w64_eq (by omega) (by omega)]
      by_cases e : x = y <;> simp [e]) (by simp [M_laws_eqTributarySL1]) (by omega)
    rw [key, zip_all_eq xs ys h]
    simp only [h, cond_ite]
    by_cases e : xs = ys <;> simp [e]
  · have e : xs ≠ ys := fun e => h (by rw [e])
    simp only [cond_ite, e, decide_false]
    rw [if_pos (by simp; omega)]
theorem p_FnExactIsValidTributaries (xs : List TTributary) (n : Int) (hl : xs.length ≤ 9223372036854775807) : M_laws_FnExactIsValidTributaries xs n = some true := by
  unfold M_laws_FnExactIsValidTributaries
  rw [p_sz xs hl]
  simp only [Option.bind_some]
  by_cases h : (1048576 : Int) - xs.length < 0
  · simp [h]
  · have hl' : xs.length ≤ 1048576 := by omega
    have hl : xs.length < 2 ^ 62 := by omega
    simp only [h, if_false, decide_false, cond_false, p_toTributaryS xs hl', Option.bind_some, p_spec_IsValidTributaries xs n hl, p_impl_IsValidTributaries xs n hl, p_eqTributaryS xs xs hl']
    simp
end Vs

