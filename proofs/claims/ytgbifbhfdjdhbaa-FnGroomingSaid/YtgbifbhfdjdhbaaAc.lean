/-
  Part of the proof that the law FnGrooming returns true at every input; no condition beside the row's own.
-/
import Derived.Test.YtgbifbhfdjdhbaaFe
import Derived.Test.YtgbifbhfdjdhbaaAa
set_option linter.defProp false
set_option linter.unusedSimpArgs false
set_option linter.unusedVariables false
namespace Vs
open Go
def z_LinkS (xs : (List TLink)) : Nat := xs.length
def ok_LinkS (xs : (List TLink)) : Prop := xs.length ≤ 9223372036854775807
def z_TributaryS (xs : (List TTributary)) : Nat := xs.length
def ok_TributaryS (xs : (List TTributary)) : Prop := xs.length ≤ 9223372036854775807
def z_IntS (xs : (List Int)) : Nat := xs.length
def ok_IntS (xs : (List Int)) : Prop := xs.length ≤ 9223372036854775807
def z_IntSS (xs : (List (List Int))) : Nat := xs.length + (xs.map fun x => z_IntS x).sum
def ok_IntSS (xs : (List (List Int))) : Prop := xs.length ≤ 9223372036854775807 ∧ ∀ x ∈ xs, ok_IntS x
end Vs

namespace Vs
open Go
theorem p_IndexFunc_Tributary (xs : List TTributary) (f : TTributary → Option Bool) (p : TTributary → Bool) (hf : ∀ x, f x = some (p x)) (hl : xs.length < 2 ^ 62) : ∃ r, M_slices_IndexFunc_Tributary xs f = some r ∧ (decide (0 ≤ r) = xs.any p) := by
  obtain ⟨b, key, hb⟩ := iter_index (f := M_slices_IndexFunc_TributaryL1 xs f) xs p (fun i x hx => by
    have hlt := (List.getElem?_eq_some_iff.1 hx).1
    have h1 : decide ((i : Int) < xs.length) = true := by simp [hlt]
    simp only [M_slices_IndexFunc_TributaryL1, h1, cond_true, geti_nat, hx, hf, Option.bind_some]
    rw [w64_eq (by omega) (by omega)]
    rcases bt (p x) with e | e <;> simp [e]) (by simp [M_slices_IndexFunc_TributaryL1]) (by omega)
  unfold M_slices_IndexFunc_Tributary
  rw [key]
  rcases hb with ⟨rfl, h⟩ | ⟨k, rfl, h⟩
  · exact ⟨-1, rfl, by rw [h]; rfl⟩
  · exact ⟨k, rfl, by rw [h]; simp⟩
theorem p_ContainsFunc_Tributary (xs : List TTributary) (f : TTributary → Option Bool) (p : TTributary → Bool) (hf : ∀ x, f x = some (p x)) (hl : xs.length < 2 ^ 62) : M_slices_ContainsFunc_Tributary xs f = some (xs.any p) := by
  unfold M_slices_ContainsFunc_Tributary
  obtain ⟨r, h1, h2⟩ := p_IndexFunc_Tributary xs f p hf hl
  simp [h1, h2]
theorem p_IndexFunc_Link (xs : List TLink) (f : TLink → Option Bool) (p : TLink → Bool) (hf : ∀ x, f x = some (p x)) (hl : xs.length < 2 ^ 62) : ∃ r, M_slices_IndexFunc_Link xs f = some r ∧ (decide (0 ≤ r) = xs.any p) := by
  obtain ⟨b, key, hb⟩ := iter_index (f := M_slices_IndexFunc_LinkL1 xs f) xs p (fun i x hx => by
    have hlt := (List.getElem?_eq_some_iff.1 hx).1
    have h1 : decide ((i : Int) < xs.length) = true := by simp [hlt]
    simp only [M_slices_IndexFunc_LinkL1, h1, cond_true, geti_nat, hx, hf, Option.bind_some]
    rw [w64_eq (by omega) (by omega)]
    rcases bt (p x) with e | e <;> simp [e]) (by simp [M_slices_IndexFunc_LinkL1]) (by omega)
  unfold M_slices_IndexFunc_Link
  rw [key]
  rcases hb with ⟨rfl, h⟩ | ⟨k, rfl, h⟩
  · exact ⟨-1, rfl, by rw [h]; rfl⟩
  · exact ⟨k, rfl, by rw [h]; simp⟩
theorem p_ContainsFunc_Link (xs : List TLink) (f : TLink → Option Bool) (p : TLink → Bool) (hf : ∀ x, f x = some (p x)) (hl : xs.length < 2 ^ 62) : M_slices_ContainsFunc_Link xs f = some (xs.any p) := by
  unfold M_slices_ContainsFunc_Link
  obtain ⟨r, h1, h2⟩ := p_IndexFunc_Link xs f p hf hl
  simp [h1, h2]
end Vs

namespace Vs
open Go
theorem p_IndexFunc_Lint_int (xs : List Int) (f : Int → Option Bool) (p : Int → Bool) (hf : ∀ x, f x = some (p x)) (hl : xs.length < 2 ^ 62) : ∃ r, M_slices_IndexFunc_Lint_int xs f = some r ∧ (decide (0 ≤ r) = xs.any p) := by
  obtain ⟨b, key, hb⟩ := iter_index (f := M_slices_IndexFunc_Lint_intL1 xs f) xs p (fun i x hx => by
    have hlt := (List.getElem?_eq_some_iff.1 hx).1
    have h1 : decide ((i : Int) < xs.length) = true := by simp [hlt]
    simp only [M_slices_IndexFunc_Lint_intL1, h1, cond_true, geti_nat, hx, hf, Option.bind_some]
    rw [w64_eq (by omega) (by omega)]
    rcases bt (p x) with e | e <;> simp [e]) (by simp [M_slices_IndexFunc_Lint_intL1]) (by omega)
  unfold M_slices_IndexFunc_Lint_int
  rw [key]
  rcases hb with ⟨rfl, h⟩ | ⟨k, rfl, h⟩
  · exact ⟨-1, rfl, by rw [h]; rfl⟩
  · exact ⟨k, rfl, by rw [h]; simp⟩
theorem p_ContainsFunc_Lint_int (xs : List Int) (f : Int → Option Bool) (p : Int → Bool) (hf : ∀ x, f x = some (p x)) (hl : xs.length < 2 ^ 62) : M_slices_ContainsFunc_Lint_int xs f = some (xs.any p) := by
  unfold M_slices_ContainsFunc_Lint_int
  obtain ⟨r, h1, h2⟩ := p_IndexFunc_Lint_int xs f p hf hl
  simp [h1, h2]
end Vs

namespace Vs
open Go
def wi (x a b : Int) : Bool := decide (a ≤ x) && decide (x ≤ b)
theorem p_within (x a b : Int) : M_impl_within x a b = some (wi x a b) := by
  unfold M_impl_within wi; by_cases h : a ≤ x <;> simp [h]
theorem p_l1In (x a b : Int) : M_spec_l1In x a b = some (wi x a b) := by
  unfold M_spec_l1In wi; by_cases h : a ≤ x <;> simp [h]
def ends (a b n : Int) : Bool := wi a 0 (IntKind.wrap .i64 (n - 1)) && wi b 0 (IntKind.wrap .i64 (n - 1)) && a != b
theorem p_areEnds (a b n : Int) : M_impl_areEnds a b n = some (ends a b n) := by
  unfold M_impl_areEnds ends; simp only [p_within, Option.bind_some]
  cases wi a 0 (IntKind.wrap .i64 (n - 1)) <;> cases wi b 0 (IntKind.wrap .i64 (n - 1)) <;> simp
theorem p_l18Pair (a b n : Int) : M_spec_l18Pair a b n = some (ends a b n) := by
  unfold M_spec_l18Pair ends; simp only [p_l1In, Option.bind_some]
  cases wi a 0 (IntKind.wrap .i64 (n - 1)) <;> cases wi b 0 (IntKind.wrap .i64 (n - 1)) <;> simp
def trOk (n : Int) (t : TTributary) : Bool := ends t.From t.To n && wi t.Rate 1 1000
theorem p_IsValidTributaries_c1 (t : TTributary) (n : Int) : M_impl_IsValidTributaries_c1 t n = some (!trOk n t) := by
  unfold M_impl_IsValidTributaries_c1 trOk; simp only [p_areEnds, p_within, Option.bind_some]
  cases ends t.From t.To n <;> simp
def tribs (list : List TTributary) (n : Int) : Bool := wi n 2 8 && decide (list.length ≤ 12) && !list.any fun t => !trOk n t
theorem p_impl_IsValidTributaries (xs : List TTributary) (n : Int) (hl : xs.length < 2 ^ 62) : M_impl_IsValidTributaries xs n = some (tribs xs n) := by
  unfold M_impl_IsValidTributaries tribs
  simp only [p_within, Option.bind_some, p_ContainsFunc_Tributary xs (fun x0 => M_impl_IsValidTributaries_c1 x0 n) (fun t => !trOk n t) (fun x => p_IsValidTributaries_c1 x n) hl]
  have : decide ((xs.length : Int) ≤ 12) = decide (xs.length ≤ 12) := by simp; omega
  rw [this]
  cases wi n 2 8 <;> cases decide (xs.length ≤ 12) <;> simp
theorem bounded_all {α : Type} {f : Int → Option (Int ⊕ (Unit ⊕ Bool))} (xs : List α) (p : α → Bool)
    (step : ∀ (i : Nat) x, xs[i]? = some x → f i = some (if i ≤ 12 then (if !p x then .inr (.inr false) else .inl ((i + 1 : Nat) : Int)) else .inr (.inl ())))
    (h2 : f xs.length = some (.inr (.inl ()))) (hl : xs.length < 18446744073709551615) :
    ∃ b, iter f N0 0 = some b ∧ (b = .inr false ∧ (xs.any fun t => !p t) = true ∨ b = .inl () ∧ (xs.length ≤ 13 → (xs.any fun t => !p t) = false)) := by
  have key : iter f N0 0 = some (walkL (fun i x (_ : Unit) => if i ≤ 12 then (if !p x then Sum.inr (Sum.inr false) else .inl ()) else .inr (.inl ())) (fun _ => Sum.inl ()) 0 xs ()) := by
    refine iter_list xs (fun i (_ : Unit) => (i : Int)) _ _ (fun _ _ => True) (fun i a x hx _ => ?_) (fun a _ => h2) () trivial hl
    rw [step i x hx]
    by_cases h2 : i ≤ 12
    · rcases bt (p x) with e | e
      · exact .inl ⟨(), by simp [h2, e], trivial, by simp [h2, e]⟩
      · exact .inr ⟨_, by simp [h2, e]; rfl, by simp [h2, e]⟩
    · exact .inr ⟨_, by simp [h2]; rfl, by simp [h2]⟩
  refine ⟨_, key, ?_⟩
  have gen : ∀ (ys : List α) (i : Nat), walkL (fun i x (_ : Unit) => if i ≤ 12 then (if !p x then Sum.inr (Sum.inr false) else .inl ()) else .inr (.inl ())) (fun _ => (Sum.inl () : Unit ⊕ Bool)) i ys () = .inr false ∧ (ys.any fun t => !p t) = true ∨
      walkL (fun i x (_ : Unit) => if i ≤ 12 then (if !p x then Sum.inr (Sum.inr false) else .inl ()) else .inr (.inl ())) (fun _ => (Sum.inl () : Unit ⊕ Bool)) i ys () = .inl () ∧ (i + ys.length ≤ 13 → (ys.any fun t => !p t) = false) := by
    intro ys
    induction ys with
    | nil => intro i; right; simp [walkL]
    | cons y ys ih =>
      intro i
      simp only [walkL, List.any_cons, List.length_cons]
      by_cases h2 : i ≤ 12
      · rcases bt (p y) with h | h
        · simp only [h2, h, if_true, Bool.not_true, Bool.false_eq_true, if_false, Bool.false_or]
          rcases ih (i + 1) with ⟨a, b⟩ | ⟨a, b⟩
          · exact .inl ⟨a, b⟩
          · exact .inr ⟨a, fun h => b (by omega)⟩
        · left; simp [h2, h]
      · right; simp only [h2, if_false]; exact ⟨trivial, fun h => by omega⟩
  rcases gen xs 0 with h | ⟨h, h'⟩
  · exact .inl h
  · exact .inr ⟨h, fun e => h' (by omega)⟩
theorem p_spec_IsValidTributaries (xs : List TTributary) (n : Int) (hl : xs.length < 2 ^ 62) : M_spec_l18Good xs n = some (tribs xs n) := by
  unfold M_spec_l18Good
  obtain ⟨b, key, hb⟩ := bounded_all (f := M_spec_l18GoodL1 xs n) xs (trOk n) (fun i x hx => by
    have hlt := (List.getElem?_eq_some_iff.1 hx).1
    simp only [M_spec_l18GoodL1, geti_nat, hx, Option.bind_some, p_l18Pair, p_l1In, trOk]
    have h1 : decide ((i : Int) < xs.length) = true := by simp [hlt]
    rw [h1]
    by_cases h2 : i ≤ 12
    · have : decide ((i : Int) ≤ 12) = true := by simp; omega
      simp only [cond_true, Option.bind_some, this, h2, if_true]
      rw [w64_eq (by omega) (by omega)]
      rcases bt (ends x.From x.To n) with e1 | e1 <;> rcases bt (wi x.Rate 1 1000) with e2 | e2 <;> simp [e1, e2]
    · have : decide ((i : Int) ≤ 12) = false := by simp; omega
      simp [this, h2]) (by simp [M_spec_l18GoodL1]) (by omega)
  rw [key]
  have hd : decide ((xs.length : Int) ≤ 12) = decide (xs.length ≤ 12) := by simp; omega
  rcases hb with ⟨rfl, h2⟩ | ⟨rfl, h2⟩
  · simp [tribs, h2]
  · simp only [Option.bind_some, p_l1In, tribs, hd]
    by_cases h3 : xs.length ≤ 12
    · rw [h2 (by omega)]; cases wi n 2 8 <;> simp [h3]
    · cases wi n 2 8 <;> simp [h3]
end Vs

namespace Vs
open Go
def lkOk (n : Int) (l : TLink) : Bool := ends l.A l.B n && wi l.Capacity 0 10000
theorem p_areLinks_c1 (l : TLink) (n : Int) : M_impl_areLinks_c1 l n = some (!lkOk n l) := by
  unfold M_impl_areLinks_c1 lkOk; simp only [p_areEnds, p_within, Option.bind_some]
  cases ends l.A l.B n <;> simp
def lks (list : List TLink) (n : Int) : Bool := wi n 2 8 && decide (list.length ≤ 12) && !list.any fun t => !lkOk n t
theorem p_areLinks (xs : List TLink) (n : Int) (hl : xs.length < 2 ^ 62) : M_impl_areLinks xs n = some (lks xs n) := by
  unfold M_impl_areLinks lks
  simp only [p_within, Option.bind_some, p_ContainsFunc_Link xs (fun x0 => M_impl_areLinks_c1 x0 n) (fun t => !lkOk n t) (fun x => p_areLinks_c1 x n) hl]
  have : decide ((xs.length : Int) ≤ 12) = decide (xs.length ≤ 12) := by simp; omega
  rw [this]
  cases wi n 2 8 <;> cases decide (xs.length ≤ 12) <;> simp
theorem p_l18Links (xs : List TLink) (n : Int) (hl : xs.length < 2 ^ 62) : M_spec_l18Links xs n = some (lks xs n) := by
  unfold M_spec_l18Links
  obtain ⟨b, key, hb⟩ := bounded_all (f := M_spec_l18LinksL1 xs n) xs (lkOk n) (fun i x hx => by
    have hlt := (List.getElem?_eq_some_iff.1 hx).1
    simp only [M_spec_l18LinksL1, geti_nat, hx, Option.bind_some, p_l18Pair, p_l1In, lkOk]
    have h1 : decide ((i : Int) < xs.length) = true := by simp [hlt]
    rw [h1]
    by_cases h2 : i ≤ 12
    · have : decide ((i : Int) ≤ 12) = true := by simp; omega
      simp only [cond_true, Option.bind_some, this, h2, if_true]
      rw [w64_eq (by omega) (by omega)]
      rcases bt (ends x.A x.B n) with e1 | e1 <;> rcases bt (wi x.Capacity 0 10000) with e2 | e2 <;> simp [e1, e2]
    · have : decide ((i : Int) ≤ 12) = false := by simp; omega
      simp [this, h2]) (by simp [M_spec_l18LinksL1]) (by omega)
  rw [key]
  have hd : decide ((xs.length : Int) ≤ 12) = decide (xs.length ≤ 12) := by simp; omega
  rcases hb with ⟨rfl, h2⟩ | ⟨rfl, h2⟩
  · simp [lks, h2]
  · simp only [Option.bind_some, p_l1In, lks, hd]
    by_cases h3 : xs.length ≤ 12
    · rw [h2 (by omega)]; cases wi n 2 8 <;> simp [h3]
    · cases wi n 2 8 <;> simp [h3]

/-! ### the search -/
def firstL (f : Nat → TLink → Option (List Int)) : Nat → List TLink → Option (List Int)
  | _, [] => none
  | i, x :: xs => match f i x with
    | some r => some r
    | none => firstL f (i + 1) xs
theorem firstL_congr {f g : Nat → TLink → Option (List Int)} : ∀ (xs : List TLink) (i : Nat), (∀ j x, xs[j]? = some x → f (i + j) x = g (i + j) x) → firstL f i xs = firstL g i xs
  | [], _, _ => rfl
  | x :: xs, i, h => by
    have e1 : f i x = g i x := h 0 x rfl
    have e2 : firstL f (i + 1) xs = firstL g (i + 1) xs := firstL_congr xs (i + 1) fun j y hy => by
      have := h (j + 1) y (by simpa using hy)
      rw [show i + 1 + j = i + (j + 1) by omega]; exact this
    simp only [firstL, e1, e2]
theorem firstL_none {f : Nat → TLink → Option (List Int)} : ∀ (xs : List TLink) (i : Nat), firstL f i xs = none → ∀ j x, xs[j]? = some x → f (i + j) x = none
  | [], _, _, j, x, h => by simp at h
  | y :: xs, i, hn, j, x, h => by
    simp only [firstL] at hn
    cases e : f i y with
    | some r => rw [e] at hn; cases hn
    | none =>
      rw [e] at hn
      cases j with
      | zero => simp at h; subst h; exact e
      | succ j => rw [show i + (j + 1) = i + 1 + j by omega]; exact firstL_none xs (i + 1) hn j x (by simpa using h)
theorem firstL_some {f : Nat → TLink → Option (List Int)} {r : List Int} : ∀ (xs : List TLink) (i : Nat), firstL f i xs = some r → ∃ j x, xs[j]? = some x ∧ f (i + j) x = some r
  | [], _, h => by cases h
  | y :: xs, i, h => by
    simp only [firstL] at h
    cases e : f i y with
    | some r' => rw [e] at h; cases h; exact ⟨0, y, rfl, e⟩
    | none =>
      rw [e] at h
      obtain ⟨j, x, h1, h2⟩ := firstL_some xs (i + 1) h
      exact ⟨j + 1, x, by simpa using h1, by rw [show i + (j + 1) = i + 1 + j by omega]; exact h2⟩
/-- the other end of a link, -1 if it does not end here -/
def nxt (x : TLink) (a : Int) : Int := if x.A = a then x.B else if x.B = a then x.A else -1
def bad (free : List Int) (rate : Int) (S : Int → Bool) (a : Int) (i : Nat) (x : TLink) : Bool := decide (nxt x a < 0) || decide (free.getD i 0 < rate) || S (nxt x a)
def imp (links : List TLink) (free : List Int) (to rate : Int) : Nat → Int → (Int → Bool) → Option (List Int)
  | 0, a, _ => if a = to then some [] else none
  | c + 1, a, S => if a = to then some [] else firstL (fun i x => if bad free rate S a i x then none else
      (imp links free to rate c (nxt x a) (fun v => v == nxt x a || S v)).map fun p => (i : Int) :: p) 0 links
def spc (links : List TLink) (free : List Int) (to rate : Int) : Nat → Int → (Int → Bool) → Option (List Int)
  | 0, _, _ => none
  | c + 1, a, S => firstL (fun i x => if bad free rate S a i x then none else if nxt x a = to then (if c = 0 then some [(i : Int)] else none) else
      (spc links free to rate c (nxt x a) (fun v => v == nxt x a || S v)).map fun p => (i : Int) :: p) 0 links
variable {links : List TLink} {free : List Int} {to rate : Int}
theorem imp_spc : ∀ (c : Nat) (a : Int) (S : Int → Bool), a ≠ to → imp links free to rate c a S = none → imp links free to rate (c + 1) a S = spc links free to rate (c + 1) a S
  | 0, a, S, ha, _ => by
    simp only [imp, spc, if_neg ha]
    refine firstL_congr _ _ fun j x _ => ?_
    by_cases hb : bad free rate S a (0 + j) x = true
    · simp [hb]
    · simp only [hb, if_false]
      by_cases hn : nxt x a = to
      · simp [hn]
      · simp [hn]
  | c + 1, a, S, ha, h => by
    rw [imp, spc]
    rw [if_neg ha]
    rw [imp, if_neg ha] at h
    refine firstL_congr _ _ fun j x hj => ?_
    have hx := firstL_none _ _ h j x hj
    simp only [Nat.zero_add] at hx ⊢
    by_cases hb : bad free rate S a j x = true
    · simp [hb]
    · rw [if_neg hb] at hx ⊢
      rw [if_neg hb]
      simp only [Option.map_eq_none_iff] at hx
      have hn : nxt x a ≠ to := by
        intro e
        rw [e] at hx
        cases c <;> simp [imp] at hx
      rw [if_neg hn, imp_spc c _ _ hn hx]
theorem imp_len : ∀ (c : Nat) (a : Int) (S : Int → Bool) (p : List Int), imp links free to rate c a S = some p → p.length ≤ c ∧ ∀ i ∈ p, 0 ≤ i ∧ i < links.length
  | 0, a, S, p, h => by
    simp only [imp] at h
    split at h
    · cases h; simp
    · cases h
  | c + 1, a, S, p, h => by
    rw [imp] at h
    split at h
    · cases h; simp
    · obtain ⟨j, x, h1, h2⟩ := firstL_some _ _ h
      split at h2
      · cases h2
      · rw [Option.map_eq_some_iff] at h2
        obtain ⟨q, h3, rfl⟩ := h2
        obtain ⟨l1, l2⟩ := imp_len c _ _ q h3
        have hj := (List.getElem?_eq_some_iff.1 h1).1
        refine ⟨by simp; omega, fun i hi => ?_⟩
        rcases List.mem_cons.1 hi with rfl | hi
        · omega
        · exact l2 i hi
theorem spc_len : ∀ (c : Nat) (a : Int) (S : Int → Bool) (p : List Int), spc links free to rate c a S = some p → p.length = c ∧ 0 < p.length
  | 0, a, S, p, h => by cases h
  | c + 1, a, S, p, h => by
    rw [spc] at h
    obtain ⟨j, x, h1, h2⟩ := firstL_some _ _ h
    split at h2
    · cases h2
    · split at h2
      · split at h2
        · rename_i hc; cases h2; simp [hc]
        · cases h2
      · rw [Option.map_eq_some_iff] at h2
        obtain ⟨q, h3, rfl⟩ := h2
        have := spc_len c _ _ q h3
        simp; omega
/-- the first count at which there is one -/
def upto (f : Nat → Option (List Int)) : Nat → Nat → Option (List Int)
  | 0, _ => none
  | n + 1, c => match f c with
    | some p => some p
    | none => upto f n (c + 1)
theorem upto_eq (a : Int) (S : Int → Bool) (ha : a ≠ to) : ∀ (n c : Nat), (imp links free to rate c a S = none) → upto (fun k => imp links free to rate k a S) n (c + 1) = upto (fun k => spc links free to rate k a S) n (c + 1)
  | 0, _, _ => rfl
  | n + 1, c, h => by
    have e := imp_spc c a S ha h
    simp only [upto]
    rw [e]
    cases hs : spc links free to rate (c + 1) a S with
    | some p => rfl
    | none => exact upto_eq a S ha n (c + 1) (by rw [e]; exact hs)
end Vs

namespace Vs
open Go
theorem bits_and_nat {a b : Nat} (ha : a < 2 ^ 63) (hb : b < 2 ^ 63) : bits .and .i64 (a : Int) (b : Int) = ((a &&& b : Nat) : Int) := by
  have h : a &&& b ≤ a := Nat.and_le_left
  unfold bits
  show IntKind.wrap .i64 (((BitVec.ofInt 64 (a : Int) &&& BitVec.ofInt 64 (b : Int)).toNat : Nat) : Int) = _
  rw [BitVec.toNat_and, BitVec.ofInt_natCast, BitVec.ofInt_natCast, BitVec.toNat_ofNat, BitVec.toNat_ofNat, Nat.mod_eq_of_lt (by omega), Nat.mod_eq_of_lt (by omega), w64_eq (by omega) (by omega)]
theorem bits_or_nat {a b : Nat} (ha : a < 2 ^ 62) (hb : b < 2 ^ 62) : bits .or .i64 (a : Int) (b : Int) = ((a ||| b : Nat) : Int) := by
  have h : a ||| b < 2 ^ 62 := Nat.or_lt_two_pow ha hb
  unfold bits
  show IntKind.wrap .i64 (((BitVec.ofInt 64 (a : Int) ||| BitVec.ofInt 64 (b : Int)).toNat : Nat) : Int) = _
  rw [BitVec.toNat_or, BitVec.ofInt_natCast, BitVec.ofInt_natCast, BitVec.toNat_ofNat, BitVec.toNat_ofNat, Nat.mod_eq_of_lt (by omega), Nat.mod_eq_of_lt (by omega), w64_eq (by omega) (by omega)]
theorem shr_nat (a v : Nat) (hv : v < 64) : Int.fdiv (a : Int) (2 ^ (min (Int.toNat (v : Int)) (IntKind.bits .i64))) = ((a / 2 ^ v : Nat) : Int) := by
  have e : min (Int.toNat (v : Int)) (IntKind.bits .i64) = v := by simp only [Int.toNat_natCast, IntKind.bits]; omega
  rw [e, Int.fdiv_eq_ediv_of_nonneg _ (Int.le_of_lt (Int.pow_pos (by decide)))]
  simp
theorem shl_nat (v : Nat) (hv : v < 62) : IntKind.wrap .i64 (1 * 2 ^ (min (Int.toNat (v : Int)) (IntKind.bits .i64))) = ((2 ^ v : Nat) : Int) := by
  have e : min (Int.toNat (v : Int)) (IntKind.bits .i64) = v := by simp only [Int.toNat_natCast, IntKind.bits]; omega
  have h : 2 ^ v < 2 ^ 62 := Nat.pow_lt_pow_right (by decide) hv
  have e2 : (1 * 2 ^ v : Int) = ((2 ^ v : Nat) : Int) := by simp
  rw [e, e2]
  generalize (2 ^ v : Nat) = p at h ⊢
  rw [w64_eq (by omega) (by omega)]
theorem bit_nat {a v : Nat} (ha : a < 2 ^ 62) (hv : v < 62) : (bits .and .i64 (Int.fdiv (a : Int) (2 ^ (min (Int.toNat (v : Int)) (IntKind.bits .i64)))) 1 == 1) = a.testBit v := by
  rw [shr_nat a v (by omega)]
  have h : a / 2 ^ v ≤ a := Nat.div_le_self _ _
  have := bits_and_nat (a := a / 2 ^ v) (b := 1) (by omega) (by decide)
  rw [show ((1 : Nat) : Int) = 1 from rfl] at this
  rw [this, Nat.and_one_is_mod, Nat.testBit_eq_decide_div_mod_eq]
  by_cases e : a / 2 ^ v % 2 = 1
  · simp [e]
  · have : ((a / 2 ^ v % 2 : Nat) : Int) ≠ 1 := by omega
    simp only [e, decide_false, beq_eq_false_iff_ne, ne_eq]
    exact this

theorem p_l1Has (l : List Int) (v : Int) (hl : l.length < 2 ^ 62) : M_spec_l1Has l v = some (l.contains v) := by
  unfold M_spec_l1Has
  have key := iter_any (f := M_spec_l1HasL1 l v) l (fun x => x == v) (.inr true) (.inl ()) (fun i x hx => by
    have hlt := (List.getElem?_eq_some_iff.1 hx).1
    have h1 : decide ((i : Int) < l.length) = true := by simp [hlt]
    simp only [M_spec_l1HasL1, h1, cond_true, geti_nat, hx, Option.bind_some]
    rw [w64_eq (by omega) (by omega)]
    rcases bt (x == v) with e | e <;> simp [e]) (by simp [M_spec_l1HasL1]) (by omega)
  rw [key]
  have e : l.contains v = l.any (fun x => x == v) := by
    rw [List.contains_eq_any_beq]; congr 1; funext x; exact Bool.beq_comm ..
  rw [e]
  rcases bt (l.any fun x => x == v) with h | h <;> simp [h]

theorem iter_first {B : Type} {f : Int → Option (Int ⊕ (Unit ⊕ B))} (links : List TLink) (F : Nat → TLink → Option (List Int)) (g : List Int → B)
    (h1 : ∀ (i : Nat) x, links[i]? = some x → f i = some (match F i x with | some r => .inr (.inr (g r)) | none => .inl ((i + 1 : Nat) : Int)))
    (h2 : f links.length = some (.inr (.inl ()))) (hl : links.length < 18446744073709551615) : iter f N0 0 = some (match firstL F 0 links with | some r => .inr (g r) | none => .inl ()) := by
  have key := iter_list (f := f) links (fun i (_ : Unit) => (i : Int)) (fun i x _ => match F i x with | some r => .inr (.inr (g r)) | none => .inl ()) (fun _ => .inl ()) (fun _ _ => True)
    (fun i a x hx _ => by
      cases h : F i x with
      | none => exact .inl ⟨(), rfl, trivial, by rw [h1 i x hx, h]⟩
      | some r => exact .inr ⟨_, rfl, by rw [h1 i x hx, h]⟩) (fun a _ => h2) () trivial hl
  refine key.trans ?_
  have gen : ∀ (ys : List TLink) (i : Nat), walkL (fun i x (_ : Unit) => match F i x with | some r => Sum.inr (Sum.inr (g r)) | none => .inl ()) (fun _ => (Sum.inl () : Unit ⊕ B)) i ys () = match firstL F i ys with | some r => .inr (g r) | none => .inl () := by
    intro ys
    induction ys with
    | nil => intro i; rfl
    | cons y ys ih =>
      intro i
      simp only [walkL, firstL]
      cases F i y with
      | none => exact ih (i + 1)
      | some r => rfl
  exact congrArg some (gen links 0)
theorem iter_upto {B : Type} {f : Int → Option (Int ⊕ (Unit ⊕ B))} (F : Nat → Option (List Int)) (g : List Int → B) (h1 : ∀ c : Nat, 1 ≤ c → c < 8 → f c = some (match F c with | some r => .inr (.inr (g r)) | none => .inl ((c + 1 : Nat) : Int)))
    (h2 : f 8 = some (.inr (.inl ()))) : iter f N0 1 = some (match upto F 7 1 with | some r => .inr (g r) | none => .inl ()) := by
  have key : ∀ (n c m : Nat), 1 ≤ c → c + n = 8 → n < m → iter f m (c : Int) = some (match upto F n c with | some r => .inr (g r) | none => .inl ()) := by
    intro n
    induction n with
    | zero =>
      intro c m _ hc hm
      have : c = 8 := by omega
      subst this
      cases m with
      | zero => omega
      | succ m => simp only [iter]; rw [show (((8 : Nat) : Int)) = 8 from rfl, h2]; rfl
    | succ n ih =>
      intro c m hc1 hc hm
      cases m with
      | zero => omega
      | succ m =>
        simp only [iter, h1 c hc1 (by omega), upto]
        cases F c with
        | some r => rfl
        | none => exact ih (c + 1) m (by omega) (by omega) (by omega)
  exact key 7 1 N0 (by decide) rfl (N0_lt (by decide))

/-- the links are valid, and as many rates are free -/
structure Good (links : List TLink) (free : List Int) : Prop where
  lnk : ∀ x ∈ links, x.A ≠ x.B ∧ 0 ≤ x.A ∧ x.A < 8 ∧ 0 ≤ x.B ∧ x.B < 8
  len : free.length = links.length
  few : links.length ≤ 12
theorem lks_good {links : List TLink} {n : Int} (h : lks links n = true) : links.length ≤ 12 ∧ (2 ≤ n ∧ n ≤ 8) ∧ ∀ x ∈ links, (x.A ≠ x.B ∧ 0 ≤ x.A ∧ x.A < 8 ∧ 0 ≤ x.B ∧ x.B < 8) ∧ 0 ≤ x.Capacity ∧ x.Capacity ≤ 10000 := by
  simp only [lks, wi, Bool.and_eq_true, decide_eq_true_eq, Bool.not_eq_true', List.any_eq_false, Bool.not_eq_false] at h
  obtain ⟨⟨⟨h1, h2⟩, h3⟩, h4⟩ := h
  refine ⟨h3, ⟨h1, h2⟩, fun x hx => ?_⟩
  have := h4 x hx
  simp only [lkOk, ends, wi, Bool.and_eq_true, decide_eq_true_eq, bne_iff_ne, ne_eq, Bool.not_eq_true, Bool.not_eq_false'] at this
  rw [w64_eq (by omega) (by omega)] at this
  obtain ⟨⟨⟨⟨a1, a2⟩, a3, a4⟩, a5⟩, a6, a7⟩ := this
  exact ⟨⟨a5, by omega, by omega, by omega, by omega⟩, a6, a7⟩
variable {links : List TLink} {free : List Int} {to rate : Int}
theorem nxt_range (hg : Good links free) {x : TLink} (hx : x ∈ links) (a : Int) : nxt x a = -1 ∨ 0 ≤ nxt x a ∧ nxt x a < 8 := by
  obtain ⟨h1, h2, h3, h4, h5⟩ := hg.lnk x hx
  unfold nxt
  split
  · right; omega
  · split
    · right; omega
    · left; rfl

theorem p_l18Find (hg : Good links free) : ∀ (c n : Nat) (a : Int) (S : Int → Bool) (l : List Int), c < n → c ≤ 8 → l.length + c ≤ 100 → (∀ v, l.contains v = S v) →
    M_spec_l18Find n links free a to rate c l = some ((spc links free to rate c a S).getD []) := by
  intro c
  induction c with
  | zero =>
    intro n a S l hn hc hl hS
    cases n with
    | zero => omega
    | succ n =>
      simp only [M_spec_l18Find, M_spec_l18Find_B, spc, Option.getD_none]
      have : iter (M_spec_l18FindL1 links free a to rate ((0 : Nat) : Int) l (M_spec_l18Find n)) N0 0 = some (.inl ()) := by
        rw [show N0 = (N0 - 1) + 1 from rfl]
        simp only [iter]
        have e : M_spec_l18FindL1 links free a to rate ((0 : Nat) : Int) l (M_spec_l18Find n) 0 = some (.inr (.inl ())) := by
          unfold M_spec_l18FindL1
          rcases bt (decide ((0 : Int) < links.length)) with e | e <;> simp [e]
        rw [e]
      rw [this]; rfl
  | succ c ih =>
    intro n a S l hn hc hl hS
    cases n with
    | zero => omega
    | succ n =>
      simp only [M_spec_l18Find, M_spec_l18Find_B, spc]
      have key := iter_first (f := M_spec_l18FindL1 links free a to rate ((c + 1 : Nat) : Int) l (M_spec_l18Find n)) links
        (fun i x => if bad free rate S a i x then none else if nxt x a = to then (if c = 0 then some [(i : Int)] else none) else
          (spc links free to rate c (nxt x a) (fun v => v == nxt x a || S v)).map fun p => (i : Int) :: p) id (fun i x hx => by
          have hlt := (List.getElem?_eq_some_iff.1 hx).1
          have hm := List.mem_of_getElem? hx
          obtain ⟨hne, hA, hA', hB, hB'⟩ := hg.lnk x hm
          have hfew := hg.few
          have h1 : decide ((i : Int) < links.length) = true := by simp [hlt]
          have h2 : decide ((0 : Int) < ((c + 1 : Nat) : Int)) = true := by simp <;> omega
          have hf : free[i]? = some (free.getD i 0) := by
            have : i < free.length := by rw [hg.len]; exact hlt
            rw [List.getD_eq_getElem?_getD, List.getElem?_eq_getElem this]; rfl
          have hn2 : (cond (x.B == a) (some x.A) (some (cond (x.A == a) x.B (-1))) : Option Int) = some (nxt x a) := by
            unfold nxt
            by_cases e1 : x.A = a
            · by_cases e2 : x.B = a
              · exact absurd (e1.trans e2.symm) hne
              · have e3 : (x.B == a) = false := by simp [e2]
                have e4 : (x.A == a) = true := by simp [e1]
                rw [e3, e4]; simp [e1]
            · by_cases e2 : x.B = a
              · have e3 : (x.B == a) = true := by simp [e2]
                rw [e3]; simp [e1, e2]
              · have e3 : (x.B == a) = false := by simp [e2]
                have e4 : (x.A == a) = false := by simp [e1]
                rw [e3, e4]; simp [e1, e2]
          have hn1 : (cond (x.A == a) (some x.B) (some (-1)) : Option Int) = some (cond (x.A == a) x.B (-1)) := by cases (x.A == a) <;> rfl
          simp only [M_spec_l18FindL1, h1, cond_true, h2, Option.bind_some, geti_nat, hx, hn1, hn2, hf, p_l1Has l _ (by omega), hS]
          have hb : (cond (decide (nxt x a < 0)) (some true) (cond (decide (free.getD i 0 < rate)) (some true) (some (S (nxt x a)))) : Option Bool) = some (bad free rate S a i x) := by
            unfold bad
            cases decide (nxt x a < 0) <;> cases decide (free.getD i 0 < rate) <;> simp
          rw [hb]
          simp only [Option.bind_some]
          rw [w64_eq (n := (i : Int) + 1) (by omega) (by omega), w64_eq (by omega) (by omega)]
          rcases bt (bad free rate S a i x) with e | e
          · simp [e]
          · simp only [e, cond_false, Bool.false_eq_true, if_false]
            by_cases e2 : nxt x a = to
            · have : (nxt x a == to) = true := by simp [e2]
              rw [this]
              simp only [cond_true, if_pos e2, bnd]
              by_cases e3 : c = 0
              · subst e3; simp
              · have : (((c + 1 : Nat) : Int) == 1) = false := by simp; omega
                rw [this]; simp [e3]
            · have : (nxt x a == to) = false := by simp [e2]
              rw [this]
              simp only [cond_false, if_neg e2, bnd, M_spec_l1Own]
              rw [grd_t (by omega)]
              simp only [Option.bind_some]
              rw [grd_t (by omega)]
              simp only [Option.bind_some]
              have hr := ih n (nxt x a) (fun v => v == nxt x a || S v) (l ++ [nxt x a]) (by omega) (by omega) (by simp; omega) (fun v => by
                rw [← hS v, List.contains_append, Bool.or_comm]
                congr 1
                by_cases e : v = nxt x a <;> simp [e])
              rw [show (((c + 1 : Nat) : Int) - 1) = (c : Int) by omega, hr]
              simp only [Option.bind_some]
              cases hs : spc links free to rate c (nxt x a) (fun v => v == nxt x a || S v) with
              | none => simp
              | some p =>
                have hp := spc_len c _ _ p hs
                have : decide ((0 : Int) < p.length) = true := by simp; omega
                simp only [Option.getD_some, this, cond_true]
                rw [grd_t (by omega)]
                simp) (by
          unfold M_spec_l18FindL1
          simp) (by have := hg.few; omega)
      rw [key]
      cases firstL (fun i x => if bad free rate S a i x then none else if nxt x a = to then (if c = 0 then some [(i : Int)] else none) else
          (spc links free to rate c (nxt x a) (fun v => v == nxt x a || S v)).map fun p => (i : Int) :: p) 0 links <;> rfl
end Vs

namespace Vs
open Go
theorem p_otherEnd (A B a : Int) (x : TLink) (hA : x.A = A) (hB : x.B = B) : M_impl_otherEnd ⟨A, B, 0, 0⟩ a = some (nxt x a) := by
  unfold M_impl_otherEnd nxt
  subst hA hB
  by_cases e1 : a = x.A
  · simp [e1]
  · have e3 : ¬ x.A = a := fun e => e1 e.symm
    by_cases e2 : a = x.B
    · have e4 : (a == x.A) = false := by simp [e1]
      have e5 : (a == x.B) = true := by simp [e2]
      rw [e4, e5, if_neg e3, if_pos e2.symm]; rfl
    · have e4 : (a == x.A) = false := by simp [e1]
      have e5 : (a == x.B) = false := by simp [e2]
      rw [e4, e5, if_neg e3, if_neg fun e => e2 e.symm]; rfl
variable {links : List TLink} {free : List Int} {to rate : Int}
theorem p_leads (hg : Good links free) : ∀ (c n : Nat) (a : Int) (S : Int → Bool) (m : Nat), c < n → c ≤ 8 → m < 256 → (∀ v : Nat, v < 8 → m.testBit v = S v) →
    M_impl_leads n links free a to rate c m = some (match imp links free to rate c a S with | some p => (p, true) | none => ([], false)) := by
  intro c
  induction c with
  | zero =>
    intro n a S m hn hc hm hS
    cases n with
    | zero => omega
    | succ n =>
      simp only [M_impl_leads, M_impl_leads_B, imp]
      by_cases e : a = to
      · have h : (a == to) = true := by simp [e]
        rw [h, if_pos e]; rfl
      · have h : (a == to) = false := by simp [e]
        rw [h, if_neg e]; rfl
  | succ c ih =>
    intro n a S m hn hc hm hS
    cases n with
    | zero => omega
    | succ n =>
      simp only [M_impl_leads, M_impl_leads_B, imp]
      by_cases e : a = to
      · have h : (a == to) = true := by simp [e]
        rw [h, if_pos e]; rfl
      · have h : (a == to) = false := by simp [e]
        have h0 : (((c + 1 : Nat) : Int) == 0) = false := by simp; omega
        rw [h, if_neg e, h0]
        simp only [cond_false]
        have key := iter_first (f := M_impl_leadsL1 links free a to rate ((c + 1 : Nat) : Int) m (M_impl_leads n)) links
          (fun i x => if bad free rate S a i x then none else
            (imp links free to rate c (nxt x a) (fun v => v == nxt x a || S v)).map fun p => (i : Int) :: p) (fun p => (p, true)) (fun i x hx => by
            have hlt := (List.getElem?_eq_some_iff.1 hx).1
            have hmm := List.mem_of_getElem? hx
            obtain ⟨hne, hA, hA', hB, hB'⟩ := hg.lnk x hmm
            have hfew := hg.few
            have h1 : decide ((i : Int) < links.length) = true := by simp [hlt]
            have hf : free[i]? = some (free.getD i 0) := by
              have : i < free.length := by rw [hg.len]; exact hlt
              rw [List.getD_eq_getElem?_getD, List.getElem?_eq_getElem this]; rfl
            simp only [M_impl_leadsL1, h1, cond_true, geti_nat, hx, hf, Option.bind_some, p_otherEnd x.A x.B a x rfl rfl]
            rw [w64_eq (n := (i : Int) + 1) (by omega) (by omega), w64_eq (by omega) (by omega)]
            rcases nxt_range hg hmm a with e3 | ⟨e3, e4⟩
            · have hb : bad free rate S a i x = true := by simp [bad, e3]
              have h3 : decide (nxt x a < 0) = true := by simp [e3]
              rw [hb, h3]; simp
            · have hbad : bad free rate S a i x = (decide (free.getD i 0 < rate) || S (nxt x a)) := by
                have : decide (nxt x a < 0) = false := by simp; omega
                unfold bad; rw [this, Bool.false_or]
              obtain ⟨v, hv⟩ := Int.eq_ofNat_of_zero_le e3
              rw [hbad]
              generalize nxt x a = y at *
              subst hv
              have hv8 : v < 8 := by omega
              have hmm2 : (m ||| 2 ^ v) < 256 := Nat.or_lt_two_pow (n := 8) hm (Nat.pow_lt_pow_right (by decide) hv8)
              have h3 : decide ((v : Int) < 0) = false := by simp
              have h2v : 2 ^ v < 2 ^ 62 := Nat.pow_lt_pow_right (by decide) (by omega)
              rw [h3, grd_t (by omega)]
              simp only [cond_false, Option.bind_some]
              rw [bit_nat (by omega) (by omega), shl_nat v (by omega), bits_or_nat (by omega) h2v, hS v hv8]
              have hr := ih n (v : Int) (fun w => w == (v : Int) || S w) (m ||| 2 ^ v) (by omega) (by omega) hmm2 (fun w hw => by
                rw [Nat.testBit_or, Nat.testBit_two_pow, hS w hw, Bool.or_comm]
                congr 1
                by_cases e : v = w
                · simp [e]
                · have : ¬ ((w : Int) = (v : Int)) := by omega
                  simp [e, this])
              rw [show (((c + 1 : Nat) : Int) - 1) = (c : Int) by omega, hr]
              rcases bt (decide (free.getD i 0 < rate)) with e5 | e5
              · rw [e5]; simp
              · rw [e5]
                rcases bt (S (v : Int)) with e6 | e6
                · rw [e6]; simp
                · rw [e6]
                  simp only [cond_false, Option.bind_some, Bool.or_false, Bool.false_eq_true, if_false]
                  cases hs : imp links free to rate c (v : Int) (fun w => w == (v : Int) || S w) with
                  | none => simp
                  | some p =>
                    have hp := imp_len c _ _ p hs
                    simp only [cond_true, bnd]
                    rw [grd_t (by omega)]
                    simp) (by
            unfold M_impl_leadsL1
            simp) (by have := hg.few; omega)
        rw [key]
        cases firstL (fun i x => if bad free rate S a i x then none else
            (imp links free to rate c (nxt x a) (fun v => v == nxt x a || S v)).map fun p => (i : Int) :: p) 0 links <;> rfl
def at1 (t : TTributary) : Int → Bool := fun v => v == t.From
def rt (links : List TLink) (free : List Int) (t : TTributary) : Option (List Int) := upto (fun k => imp links free t.To t.Rate k t.From (at1 t)) 7 1
def rs (links : List TLink) (free : List Int) (t : TTributary) : Option (List Int) := upto (fun k => spc links free t.To t.Rate k t.From (at1 t)) 7 1
theorem upto_some {f : Nat → Option (List Int)} {p : List Int} : ∀ (n c : Nat), upto f n c = some p → ∃ k, k < c + n ∧ f k = some p
  | 0, _, h => by cases h
  | n + 1, c, h => by
    simp only [upto] at h
    cases e : f c with
    | some q => rw [e] at h; cases h; exact ⟨c, by omega, e⟩
    | none =>
      rw [e] at h
      obtain ⟨k, h1, h2⟩ := upto_some n (c + 1) h
      exact ⟨k, by omega, h2⟩
theorem rt_rs (t : TTributary) (h : t.From ≠ t.To) : rt links free t = rs links free t :=
  upto_eq t.From (at1 t) h 7 0 (by simp [imp, h])
theorem rt_len {t : TTributary} {p : List Int} (h : rt links free t = some p) : p.length ≤ 7 ∧ ∀ i ∈ p, 0 ≤ i ∧ i < links.length := by
  obtain ⟨k, h1, h2⟩ := upto_some _ _ h
  have := imp_len k _ _ p h2
  exact ⟨by omega, this.2⟩
theorem rs_pos {t : TTributary} {p : List Int} (h : rs links free t = some p) : 0 < p.length := by
  obtain ⟨k, h1, h2⟩ := upto_some _ _ h
  exact (spc_len k _ _ p h2).2
theorem p_l18Route (hg : Good links free) (t : TTributary) : M_spec_l18Route links free t = some ((rs links free t).getD []) := by
  unfold M_spec_l18Route
  rw [iter_upto (f := M_spec_l18RouteL1 links free t) (fun k => spc links free t.To t.Rate k t.From (at1 t)) id (fun c hc hc8 => by
    have hlt : decide ((c : Int) < 8) = true := by simp; omega
    simp only [M_spec_l18RouteL1, hlt, cond_true, bnd]
    rw [p_l18Find hg c N0 t.From (at1 t) [t.From] (N0_lt (by omega)) (by omega) (by simp; omega) (fun v => by by_cases e : v = t.From <;> simp [at1, e])]
    simp only [Option.bind_some]
    rw [w64_eq (by omega) (by omega)]
    cases hs : spc links free t.To t.Rate c t.From (at1 t) with
    | none => simp
    | some p =>
      have hp := spc_len c _ _ p hs
      have : decide ((0 : Int) < p.length) = true := by simp; omega
      simp only [Option.getD_some, this, cond_true]; rfl) (by unfold M_spec_l18RouteL1; simp)]
  unfold rs
  cases upto (fun k => spc links free t.To t.Rate k t.From (at1 t)) 7 1 <;> rfl
theorem p_routed (hg : Good links free) (t : TTributary) (h0 : 0 ≤ t.From) (h8 : t.From < 8) : M_impl_routed links free t = some (match rt links free t with | some p => (p, true) | none => ([], false)) := by
  unfold M_impl_routed
  obtain ⟨v, hv⟩ := Int.eq_ofNat_of_zero_le h0
  have hv8 : v < 8 := by omega
  rw [iter_upto (f := M_impl_routedL1 links free t) (fun k => imp links free t.To t.Rate k t.From (at1 t)) (fun p => (p, true)) (fun c hc hc8 => by
    have hlt : decide ((c : Int) < 8) = true := by simp; omega
    simp only [M_impl_routedL1, hlt, cond_true]
    rw [grd_t h0]
    simp only [Option.bind_some]
    have hm : (IntKind.wrap .i64 (1 * 2 ^ (min (Int.toNat t.From) (IntKind.bits .i64)))) = ((2 ^ v : Nat) : Int) := by rw [hv]; exact shl_nat v (by omega)
    rw [hm, p_leads hg c N0 t.From (at1 t) (2 ^ v) (N0_lt (by omega)) (by omega) (Nat.pow_lt_pow_right (n := 8) (by decide) hv8) (fun w hw => by
      rw [Nat.testBit_two_pow, at1, hv]
      by_cases e : v = w
      · simp [e]
      · have : ¬ ((w : Int) = (v : Int)) := by omega
        simp [e, this])]
    simp only [Option.bind_some]
    rw [w64_eq (by omega) (by omega)]
    cases hs : imp links free t.To t.Rate c t.From (at1 t) <;> simp) (by unfold M_impl_routedL1; simp)]
  unfold rt
  cases upto (fun k => imp links free t.To t.Rate k t.From (at1 t)) 7 1 <;> rfl
end Vs

namespace Vs
open Go
theorem tr_good {ts : List TTributary} {n : Int} (h : tribs ts n = true) : ts.length ≤ 12 ∧ ∀ t ∈ ts, (t.From ≠ t.To ∧ 0 ≤ t.From ∧ t.From < 8) ∧ 1 ≤ t.Rate ∧ t.Rate ≤ 1000 := by
  simp only [tribs, wi, Bool.and_eq_true, decide_eq_true_eq, Bool.not_eq_true', List.any_eq_false, Bool.not_eq_false] at h
  obtain ⟨⟨⟨h1, h2⟩, h3⟩, h4⟩ := h
  refine ⟨h3, fun x hx => ?_⟩
  have := h4 x hx
  simp only [trOk, ends, wi, Bool.and_eq_true, decide_eq_true_eq, bne_iff_ne, ne_eq, Bool.not_eq_true, Bool.not_eq_false'] at this
  rw [w64_eq (by omega) (by omega)] at this
  obtain ⟨⟨⟨⟨a1, a2⟩, a3, a4⟩, a5⟩, a6, a7⟩ := this
  exact ⟨⟨a5, by omega, by omega⟩, a6, a7⟩
variable {links : List TLink} {free : List Int}
theorem mkGood {n : Int} (h : lks links n = true) (hl : free.length = links.length) : Good links free :=
  ⟨fun x hx => ((lks_good h).2.2 x hx).1, hl, (lks_good h).1⟩
end Vs

namespace Vs
open Go
theorem iter_fold {α A S B : Type} {f : S → Option (S ⊕ B)} (xs : List α) (st : Nat → A → S) (g : A → α → A) (fin : A → B) (I : Nat → A → Prop)
    (h1 : ∀ i a x, xs[i]? = some x → I i a → I (i + 1) (g a x) ∧ f (st i a) = some (.inl (st (i + 1) (g a x))))
    (h2 : ∀ a, I xs.length a → f (st xs.length a) = some (.inr (fin a))) (a0 : A) (h0 : I 0 a0) (hl : xs.length < 18446744073709551615) :
    iter f N0 (st 0 a0) = some (fin (xs.foldl g a0)) := by
  rw [iter_list xs st (fun _ x a => .inl (g a x)) fin I (fun i a x hx hI => .inl ⟨g a x, rfl, (h1 i a x hx hI).1, (h1 i a x hx hI).2⟩) h2 a0 h0 hl]
  have gen : ∀ (ys : List α) (i : Nat) (a : A), walkL (fun _ x a => (.inl (g a x) : A ⊕ B)) fin i ys a = fin (ys.foldl g a) := by
    intro ys
    induction ys with
    | nil => intro i a; rfl
    | cons y ys ih => intro i a; exact ih (i + 1) (g a y)
  rw [gen]
def takes (r : Int) : List Int → List Int → List Int
  | [], F => F
  | x :: p, F => takes r p (F.set x.toNat (IntKind.wrap .i64 (F.getD x.toNat 0 - r)))
theorem takes_len (r : Int) : ∀ (p F : List Int), (takes r p F).length = F.length
  | [], _ => rfl
  | x :: p, F => by rw [takes, takes_len r p]; simp
theorem takes_fold (r : Int) : ∀ (p F : List Int), p.foldl (fun F x => F.set x.toNat (IntKind.wrap .i64 (F.getD x.toNat 0 - r))) F = takes r p F
  | [], _ => rfl
  | x :: p, F => takes_fold r p _
def fit (links : List TLink) (F : List Int) (t : TTributary) : List Int := (rt links F t).getD []
def paths (links : List TLink) : List TTributary → List Int → List (List Int)
  | [], _ => []
  | t :: ts, F => fit links F t :: paths links ts (takes t.Rate (fit links F t) F)
def rest (links : List TLink) : List TTributary → List Int → List Int
  | [], F => F
  | t :: ts, F => rest links ts (takes t.Rate (fit links F t) F)
def blk (links : List TLink) : List TTributary → List Int → Int → Int
  | [], _, b => b
  | t :: ts, F, b => blk links ts (takes t.Rate (fit links F t) F) (if (rt links F t).isSome then b else IntKind.wrap .i64 (b + t.Rate))
theorem paths_len (links : List TLink) : ∀ (ts : List TTributary) (F : List Int), (paths links ts F).length = ts.length
  | [], _ => rfl
  | t :: ts, F => by simp [paths, paths_len links ts]
theorem blk_zip (links : List TLink) : ∀ (ts : List TTributary) (F : List Int) (b : Int), (∀ t ∈ ts, t.From ≠ t.To) →
    (ts.zip (paths links ts F)).foldl (fun b x => if x.2.length = 0 then IntKind.wrap .i64 (b + x.1.Rate) else b) b = blk links ts F b
  | [], _, _, _ => rfl
  | t :: ts, F, b, h => by
    simp only [paths, List.zip_cons_cons, List.foldl_cons, blk]
    rw [blk_zip links ts _ _ fun t ht => h t (by simp [ht])]
    congr 1
    cases hr : rt links F t with
    | none => simp [fit, hr]
    | some p =>
      have := rs_pos ((rt_rs t (h t (by simp))).symm.trans hr)
      have : ¬ (p = []) := by intro e; subst e; simp at this
      simp [fit, hr, this]
variable {links : List TLink}
theorem p_caps {f : Int × List Int → Option ((Int × List Int) ⊕ List Int)} (hl : links.length ≤ 12)
    (h : ∀ s, f s = cond (decide (s.1 < (links.length : Int))) ((geti links s.1).bind fun y => bnd ([y.Capacity]) fun l => (grd ((s.2.length + 1) * 8 ≤ 140737488355328)).bind fun _ => bnd (s.2 ++ l) fun l2 => some (.inl (IntKind.wrap .i64 (s.1 + 1), l2))) (some (.inr s.2))) :
    iter f N0 (0, []) = some (links.map fun x => x.Capacity) := by
  have key := iter_fold (f := f) links (fun i (a : List Int) => ((i : Int), a)) (fun a x => a ++ [x.Capacity]) id (fun i a => a.length = i) (fun i a x hx hI => by
    have hlt := (List.getElem?_eq_some_iff.1 hx).1
    have h1 : decide ((i : Int) < links.length) = true := by simp [hlt]
    refine ⟨by simp [hI], ?_⟩
    rw [h]
    simp only [h1, cond_true, geti_nat, hx, Option.bind_some, bnd]
    rw [grd_t (by omega), w64_eq (by omega) (by omega)]
    simp) (fun a _ => by rw [h]; simp) [] rfl (by omega)
  refine key.trans ?_
  have gen : ∀ (xs : List TLink) (a : List Int), xs.foldl (fun a x => a ++ [x.Capacity]) a = a ++ xs.map fun x => x.Capacity := by
    intro xs
    induction xs with
    | nil => intro a; simp
    | cons y ys ih => intro a; simp [ih]
  rw [gen]; rfl
theorem p_takes {f : Int × List Int → Option ((Int × List Int) ⊕ List Int)} (p F : List Int) (r : Int) (hp : ∀ i ∈ p, 0 ≤ i ∧ i < F.length) (hl : p.length ≤ 7)
    (h : ∀ (i : Nat) x G, p[i]? = some x → G.length = F.length → 0 ≤ x → x < G.length → f ((i : Int), G) = some (.inl (IntKind.wrap .i64 ((i : Int) + 1), G.set x.toNat (IntKind.wrap .i64 (G.getD x.toNat 0 - r)))))
    (h2 : ∀ G, f (p.length, G) = some (.inr G)) : iter f N0 (0, F) = some (takes r p F) := by
  have key := iter_fold (f := f) p (fun i (a : List Int) => ((i : Int), a)) (fun F x => F.set x.toNat (IntKind.wrap .i64 (F.getD x.toNat 0 - r))) id (fun i a => a.length = F.length) (fun i a x hx hI => by
    have hlt := (List.getElem?_eq_some_iff.1 hx).1
    obtain ⟨g1, g2⟩ := hp x (List.mem_of_getElem? hx)
    refine ⟨by simp [hI], ?_⟩
    rw [h i x a hx hI g1 (by omega), w64_eq (by omega) (by omega)]
    rfl) (fun a _ => h2 a) F rfl (by omega)
  refine key.trans ?_
  rw [takes_fold]; rfl
theorem fit_in {F : List Int} (hF : F.length = links.length) (t : TTributary) : (fit links F t).length ≤ 7 ∧ ∀ i ∈ fit links F t, 0 ≤ i ∧ i < F.length := by
  unfold fit
  cases h : rt links F t with
  | none => simp
  | some p => have := rt_len h; rw [hF]; exact this
theorem get_at {α : Type} {l : List α} {x : Int} (h0 : 0 ≤ x) (h : x < l.length) (d : α) : l[x.toNat]? = some (l.getD x.toNat d) := by
  have : x.toNat < l.length := by omega
  rw [List.getD_eq_getElem?_getD, List.getElem?_eq_getElem this]; rfl
theorem fold_paths (ts : List TTributary) : ∀ (R : List (List Int)) (F : List Int), ts.foldl (fun (a : List (List Int) × List Int) t => (a.1 ++ [fit links a.2 t], takes t.Rate (fit links a.2 t) a.2)) (R, F) = (R ++ paths links ts F, rest links ts F) := by
  induction ts with
  | nil => intro R F; simp [paths, rest]
  | cons t ts ih => intro R F; simp [ih, paths, rest]
theorem fold_blk (ts : List TTributary) : ∀ (b : Int) (R : List (List Int)) (F : List Int), ts.foldl (fun (a : Int × List (List Int) × List Int) t => (if (rt links a.2.2 t).isSome then a.1 else IntKind.wrap .i64 (a.1 + t.Rate), a.2.1 ++ [fit links a.2.2 t], takes t.Rate (fit links a.2.2 t) a.2.2)) (b, R, F) = (blk links ts F b, R ++ paths links ts F, rest links ts F) := by
  induction ts with
  | nil => intro b R F; simp [paths, rest, blk]
  | cons t ts ih => intro b R F; simp [ih, paths, rest, blk]
def caps (links : List TLink) : List Int := links.map fun x => x.Capacity
theorem p_GroomAll (n : Int) (ts : List TTributary) (hl : links.length < 2 ^ 62) (ht : ts.length < 2 ^ 62) :
    M_spec_GroomAll links n ts = some (if lks links n && tribs ts n then (paths links ts (caps links), rest links ts (caps links), true) else ([], [], false)) := by
  unfold M_spec_GroomAll
  simp only [p_l18Links links n hl, p_spec_IsValidTributaries ts n ht, Option.bind_some]
  rcases bt (lks links n) with e1 | e1
  · rcases bt (tribs ts n) with e2 | e2
    · have gl := (lks_good e1).1
      obtain ⟨gt, g⟩ := tr_good e2
      have key := iter_fold (f := M_spec_GroomAllL2 links ts) ts (fun i (a : List (List Int) × List Int) => ((i : Int), a)) (fun (a : List (List Int) × List Int) t => (a.1 ++ [fit links a.2 t], takes t.Rate (fit links a.2 t) a.2)) id (fun i a => a.1.length = i ∧ a.2.length = links.length) (fun i a x hx hI => by
        have hlt := (List.getElem?_eq_some_iff.1 hx).1
        have h1 : decide ((i : Int) < ts.length) = true := by simp [hlt]
        obtain ⟨⟨g1, g2, g3⟩, _⟩ := g x (List.mem_of_getElem? hx)
        refine ⟨⟨by simp [hI.1], by simp [takes_len, hI.2]⟩, ?_⟩
        obtain ⟨q1, q2⟩ := fit_in hI.2 x
        have hr : M_spec_l18Route links a.2 x = some (fit links a.2 x) := by rw [p_l18Route (mkGood e1 hI.2) x, ← rt_rs x g1]; rfl
        simp only [M_spec_GroomAllL2, h1, cond_true, geti_nat, hx, Option.bind_some, hr]
        rw [p_takes (fit links a.2 x) a.2 x.Rate q2 q1 (fun j y G hy hG y0 y1 => by
          have hjl := (List.getElem?_eq_some_iff.1 hy).1
          have j1 : decide ((j : Int) < (fit links a.2 x).length) = true := by simp [hjl]
          simp only [M_spec_GroomAllL3, j1, cond_true, Int.toNat_natCast, geti_nat, hx, hy, Option.bind_some, bnd]
          rw [grd_t ⟨by omega, by omega⟩]
          simp only [Option.bind_some]
          rw [grd_t ⟨by omega, by omega⟩]
          simp only [Option.bind_some]
          rw [get_at y0 y1 0]
          rfl) (fun G => by simp [M_spec_GroomAllL3])]
        simp only [Option.bind_some, bnd]
        rw [grd_t (by omega), w64_eq (by omega) (by omega)]
        rfl) (fun a _ => by simp [M_spec_GroomAllL2]) ([], caps links) ⟨rfl, by simp [caps]⟩ (by omega)
      have kc := p_caps (f := M_spec_GroomAllL1 links) gl (fun s => rfl)
      simp only [e1, e2, Bool.not_true, cond_false, cond_true, Option.bind_some, kc]
      rw [show (links.map fun x => x.Capacity) = caps links from rfl, show iter (M_spec_GroomAllL2 links ts) N0 (0, [], caps links) = _ from key]
      simp [fold_paths]
    · simp [e1, e2]
  · simp [e1]
theorem p_groomed (n : Int) (ts : List TTributary) (e1 : lks links n = true) (e2 : tribs ts n = true) :
    M_impl_groomed links ts = some (paths links ts (caps links), rest links ts (caps links), blk links ts (caps links) 0) := by
  unfold M_impl_groomed
  have gl := (lks_good e1).1
  obtain ⟨gt, g⟩ := tr_good e2
  have key := iter_fold (f := M_impl_groomedL2 links ts) ts (fun i (a : Int × List (List Int) × List Int) => (a.1, (i : Int), a.2)) (fun (a : Int × List (List Int) × List Int) t => (if (rt links a.2.2 t).isSome then a.1 else IntKind.wrap .i64 (a.1 + t.Rate), a.2.1 ++ [fit links a.2.2 t], takes t.Rate (fit links a.2.2 t) a.2.2)) id (fun i a => a.2.1.length = i ∧ a.2.2.length = links.length) (fun i a x hx hI => by
    have hlt := (List.getElem?_eq_some_iff.1 hx).1
    have h1 : decide ((i : Int) < ts.length) = true := by simp [hlt]
    obtain ⟨⟨g1, g2, g3⟩, _⟩ := g x (List.mem_of_getElem? hx)
    refine ⟨⟨by simp [hI.1], by simp [takes_len, hI.2]⟩, ?_⟩
    obtain ⟨q1, q2⟩ := fit_in hI.2 x
    have hr : M_impl_routed links a.2.2 x = some (fit links a.2.2 x, (rt links a.2.2 x).isSome) := by
      rw [p_routed (mkGood e1 hI.2) x g2 g3]
      unfold fit
      cases rt links a.2.2 x <;> rfl
    simp only [M_impl_groomedL2, h1, cond_true, geti_nat, hx, Option.bind_some, hr]
    have hc : (cond (!(rt links a.2.2 x).isSome) (some (IntKind.wrap .i64 (a.1 + x.Rate))) (some a.1) : Option Int) = some (if (rt links a.2.2 x).isSome then a.1 else IntKind.wrap .i64 (a.1 + x.Rate)) := by
      cases (rt links a.2.2 x).isSome <;> rfl
    rw [hc]
    simp only [Option.bind_some]
    rw [p_takes (fit links a.2.2 x) a.2.2 x.Rate q2 q1 (fun j y G hy hG y0 y1 => by
      have hjl := (List.getElem?_eq_some_iff.1 hy).1
      have j1 : decide ((j : Int) < (fit links a.2.2 x).length) = true := by simp [hjl]
      simp only [M_impl_groomedL3, j1, cond_true, Int.toNat_natCast, hy, Option.bind_some, bnd]
      rw [grd_t ⟨by omega, by omega⟩]
      simp only [Option.bind_some]
      rw [grd_t ⟨by omega, by omega⟩]
      simp only [Option.bind_some]
      rw [get_at y0 y1 0]
      rfl) (fun G => by simp [M_impl_groomedL3])]
    simp only [Option.bind_some, bnd]
    rw [grd_t (by omega), w64_eq (n := (i : Int) + 1) (by omega) (by omega)]
    rfl) (fun a _ => by simp [M_impl_groomedL2]) (0, [], caps links) ⟨rfl, by simp [caps]⟩ (by omega)
  have kc := p_caps (f := M_impl_groomedL1 links) gl (fun s => rfl)
  simp only [kc, Option.bind_some]
  rw [show (links.map fun x => x.Capacity) = caps links from rfl, show iter (M_impl_groomedL2 links ts) N0 (0, 0, [], caps links) = _ from key]
  simp [fold_blk]
end Vs

namespace Vs
open Go
variable {links : List TLink} {free : List Int}
def rtOk (links : List TLink) (free : List Int) (n : Int) (t : TTributary) : Bool := lks links n && tribs [t] n && decide (free.length = links.length) && !free.any fun x => !wi x 0 10000
def rtR (links : List TLink) (free : List Int) (n : Int) (t : TTributary) : List Int × Bool × Bool := if rtOk links free n t then ((rt links free t).getD [], (rt links free t).isSome, true) else ([], false, false)
theorem bne_len {α β : Type} (a : List α) (b : List β) : ((a.length : Int) != (b.length : Int)) = !decide (a.length = b.length) := by
  by_cases e : a.length = b.length
  · simp [e]
  · have : ¬ ((a.length : Int) = (b.length : Int)) := by omega
    simp [e, this]
theorem p_impl_Route (n : Int) (t : TTributary) (hl : links.length < 2 ^ 62) (hf : free.length < 2 ^ 62) : M_impl_RouteTributary links free n t = some (rtR links free n t) := by
  unfold M_impl_RouteTributary
  have hc : ∀ x, M_impl_RouteTributary_c1 x = some (!wi x 0 10000) := fun x => by unfold M_impl_RouteTributary_c1; rw [p_within]; rfl
  simp only [p_areLinks links n hl, p_impl_IsValidTributaries [t] n (by simp), bnd, Option.bind_some, bne_len, p_ContainsFunc_Lint_int free M_impl_RouteTributary_c1 (fun x => !wi x 0 10000) hc hf]
  rcases bt (lks links n) with e1 | e1
  · have : (cond (!lks links n) (some true) (cond (!tribs [t] n) (some true) (cond (!decide (free.length = links.length)) (some true) (some (free.any fun x => !wi x 0 10000)))) : Option Bool) = some (!rtOk links free n t) := by
      unfold rtOk
      cases lks links n <;> cases tribs [t] n <;> cases decide (free.length = links.length) <;> simp
    rw [this]
    simp only [Option.bind_some, rtR]
    rcases bt (rtOk links free n t) with e | e
    · have e' := e
      unfold rtOk at e'
      simp only [Bool.and_eq_true, decide_eq_true_eq] at e'
      obtain ⟨⟨⟨h1, h2⟩, h3⟩, h4⟩ := e'
      obtain ⟨⟨g1, g2, g3⟩, _⟩ := (tr_good h2).2 t (by simp)
      rw [p_routed (mkGood h1 h3) t g2 g3, e]
      cases rt links free t <;> simp
    · simp [e]
  · simp [rtR, rtOk, e1]
theorem rtR_len (n : Int) (t : TTributary) : (rtR links free n t).1.length ≤ 7 := by
  unfold rtR
  split
  · cases h : rt links free t with
    | none => simp
    | some p => have := rt_len h; simp; omega
  · simp
end Vs

namespace Vs
open Go
variable {links : List TLink}
theorem p_impl_Blocked (n : Int) (ts : List TTributary) (hl : links.length < 2 ^ 62) (ht : ts.length < 2 ^ 62) :
    M_impl_BlockedRate links n ts = some (if lks links n && tribs ts n then (blk links ts (caps links) 0, true) else (0, false)) := by
  unfold M_impl_BlockedRate M_impl_isGrooming
  simp only [p_areLinks links n hl, p_impl_IsValidTributaries ts n ht, Option.bind_some]
  rcases bt (lks links n) with e1 | e1
  · rcases bt (tribs ts n) with e2 | e2
    · simp [e1, e2, p_groomed n ts e1 e2]
    · simp [e1, e2]
  · simp [e1]
end Vs

namespace Vs
open Go
theorem p_Contains_i (xs : List Int) (v : Int) (hl : xs.length ≤ 1048576) : M_slices_Contains_Lint_int xs v = some (xs.contains v) := by
  unfold M_slices_Contains_Lint_int M_slices_Index_Lint_int
  rw [iter_findI (f := M_slices_Index_Lint_intL1 xs v) xs (fun _ x => x == v) (fun i _ => (i : Int)) () (fun i x hx _ => by
    have hlt := (List.getElem?_eq_some_iff.1 hx).1
    have h1 : decide ((i : Int) < xs.length) = true := by simp [hlt]
    simp only [M_slices_Index_Lint_intL1, h1, cond_true, geti_nat, hx, Option.bind_some]
    rw [w64_eq (by omega) (by omega), show (v == x) = (x == v) from Bool.beq_comm ..]
    rcases bt (x == v) with e | e <;> simp only [e] <;> rfl) (by simp [M_slices_Index_Lint_intL1]) (by omega)]
  have e : xs.contains v = xs.any (fun x => x == v) := by
    rw [List.contains_eq_any_beq]; congr 1; funext x; exact Bool.beq_comm ..
  rw [e, ← anyI_any]
  cases e : findI (fun _ x => x == v) xs with
  | none =>
    have h : anyI (fun _ x => x == v) xs = false := anyI_false.2 (findI_none.1 e)
    rw [h]; rfl
  | some q =>
    obtain ⟨i, x⟩ := q
    obtain ⟨h1, h2, _⟩ := findI_some.1 e
    have h : anyI (fun _ x => x == v) xs = true := anyI_iff.2 ⟨i, x, h1, h2⟩
    rw [h]; simp
theorem slT_nat {α : Type} (xs : List α) (i : Nat) (h : i ≤ xs.length) : slT xs (i : Int) = some (xs.take i) := by
  unfold slT
  rw [if_pos ⟨by omega, by simpa using h⟩]; simp
/-! ### loads -/
def stepIn (m : Nat) (rate : Int) (path : List Int) (k : Nat) (x : Int) (out : List Int) : List Int ⊕ (List Int ⊕ (List Int × Bool)) :=
  if !wi x 0 ((m : Int) - 1) || (path.take k).contains x then .inr (.inr ([], false)) else .inl (out.set x.toNat (IntKind.wrap .i64 (out.getD x.toNat 0 + rate)))
def LLin (m : Nat) (rate : Int) (path out : List Int) : List Int ⊕ (List Int × Bool) := walkL (stepIn m rate path) Sum.inl 0 path out
def rateAt (list : List TTributary) (i : Nat) : Int := match list[i]? with | some t => t.Rate | none => 0
def stepOut (m : Nat) (list : List TTributary) (i : Nat) (path out : List Int) : List Int ⊕ (List Int ⊕ (List Int × Bool)) := match LLin m (rateAt list i) path out with
  | .inl o => .inl o
  | .inr r => .inr (.inr r)
def LLout (m : Nat) (list : List TTributary) (routes : List (List Int)) : List Int ⊕ (List Int × Bool) := walkL (stepOut m list) Sum.inl 0 routes (List.replicate m 0)
theorem walkL_keeps {α A B : Type} (step : Nat → α → A → A ⊕ B) (fin : A → B) (I : A → Prop) (J : B → Prop) (h : ∀ i x a, I a → match step i x a with | .inl a' => I a' | .inr b => J b) (hf : ∀ a, I a → J (fin a)) :
    ∀ (xs : List α) (i : Nat) (a : A), I a → J (walkL step fin i xs a)
  | [], i, a, ha => hf a ha
  | x :: xs, i, a, ha => by
    have := h i x a ha
    simp only [walkL]
    split
    · rename_i a' e; rw [e] at this; exact walkL_keeps step fin I J h hf xs (i + 1) a' this
    · rename_i b e; rw [e] at this; exact this
theorem LLin_len (m : Nat) (rate : Int) (path out : List Int) (ho : out.length = m) : match LLin m rate path out with | .inl o => o.length = m | .inr r => r = ([], false) := by
  refine walkL_keeps (stepIn m rate path) Sum.inl (fun o => o.length = m) (fun b => match b with | .inl o => o.length = m | .inr r => r = ([], false)) (fun i x a ha => ?_) (fun a ha => ha) path 0 out ho
  unfold stepIn
  split
  · rename_i a' e
    split at e
    · cases e
    · cases e; simpa using ha
  · rename_i b e
    split at e
    · cases e; rfl
    · cases e
theorem LLout_len (m : Nat) (list : List TTributary) (routes : List (List Int)) : match LLout m list routes with | .inl o => o.length = m | .inr r => r = ([], false) := by
  refine walkL_keeps (stepOut m list) Sum.inl (fun o => o.length = m) (fun b => match b with | .inl o => o.length = m | .inr r => r = ([], false)) (fun i x a ha => ?_) (fun a ha => ha) routes 0 _ (by simp)
  have := LLin_len m (rateAt list i) x a ha
  unfold stepOut
  split
  · rename_i a' e
    split at e
    · rename_i o e2; cases e; rw [e2] at this; exact this
    · cases e
  · rename_i b e
    split at e
    · cases e
    · rename_i r e2; cases e; rw [e2] at this; exact this
def LL (links : List TLink) (n : Int) (list : List TTributary) (routes : List (List Int)) : List Int × Bool :=
  if lks links n && tribs list n && decide (routes.length = list.length) then (match LLout links.length list routes with | .inl v => (v, true) | .inr r => r) else ([], false)
theorem lks12 {links : List TLink} {n : Int} (h : lks links n = true) : links.length ≤ 12 := by
  simp only [lks, Bool.and_eq_true, decide_eq_true_eq] at h; exact h.1.2
theorem tribs12 {ts : List TTributary} {n : Int} (h : tribs ts n = true) : ts.length ≤ 12 := by
  simp only [tribs, Bool.and_eq_true, decide_eq_true_eq] at h; exact h.1.2
theorem LL_len (links : List TLink) (n : Int) (list : List TTributary) (routes : List (List Int)) : (LL links n list routes).1.length ≤ 12 := by
  unfold LL
  split
  · rename_i h
    simp only [Bool.and_eq_true] at h
    have h1 := lks12 h.1.1
    have := LLout_len links.length list routes
    split
    · rename_i v e; rw [e] at this; simp only at this ⊢; omega
    · rename_i r e; rw [e] at this; simp only at this; rw [this]; simp
  · simp
theorem get_in {out : List Int} {x : Int} (h0 : 0 ≤ x) (h1 : x < out.length) : out[x.toNat]? = some (out.getD x.toNat 0) := by
  have : x.toNat < out.length := by omega
  rw [List.getD_eq_getElem?_getD, List.getElem?_eq_getElem this]; rfl
theorem p_in_impl (links : List TLink) (list : List TTributary) (i : Nat) (s : List Int) (path out : List Int) (hl : links.length ≤ 12) (hp : path.length ≤ 1048576) (ho : out.length = links.length) (hi : i < list.length) :
    iter (M_impl_LinkLoadsL2 links list ((i : Int), s) path) N0 (0, out) = some (LLin links.length (rateAt list i) path out) := by
  have ht : list[i]? = some list[i] := List.getElem?_eq_getElem hi
  refine iter_list (f := M_impl_LinkLoadsL2 links list ((i : Int), s) path) path (fun k (a : List Int) => ((k : Int), a)) (stepIn links.length (rateAt list i) path) Sum.inl (fun _ a => a.length = links.length) (fun k a x hx ha => ?_) (fun a _ => by simp [M_impl_LinkLoadsL2]) out ho (by omega)
  have hlt := (List.getElem?_eq_some_iff.1 hx).1
  have h1 : decide ((k : Int) < path.length) = true := by simp [hlt]
  simp only [M_impl_LinkLoadsL2, h1, cond_true, geti_nat, hx, Option.bind_some, p_within, slT_nat path k (Nat.le_of_lt hlt), p_Contains_i (path.take k) x (by simp; omega)]
  rw [w64_eq (n := (links.length : Int) - 1) (by omega) (by omega), w64_eq (n := (k : Int) + 1) (by omega) (by omega)]
  unfold stepIn
  rcases bt (wi x 0 ((links.length : Int) - 1)) with e | e
  · rcases bt ((path.take k).contains x) with e2 | e2
    · exact .inr ⟨_, by simp only [e, e2]; rfl, by simp only [e, e2]; rfl⟩
    · have hw : 0 ≤ x ∧ x ≤ (links.length : Int) - 1 := by simpa [wi] using e
      refine .inl ⟨_, by simp only [e, e2]; rfl, by simpa using ha, ?_⟩
      have hg : grd (0 ≤ x ∧ x < (a.length : Int)) = some () := grd_t ⟨hw.1, by omega⟩
      simp only [e, e2, Bool.not_true, cond_false, Option.bind_some, hg, get_in hw.1 (show x < (a.length : Int) by omega), ht, bnd, rateAt]
      rfl
  · exact .inr ⟨_, by simp only [e]; rfl, by simp only [e]; rfl⟩
theorem p_impl_LL (links : List TLink) (n : Int) (list : List TTributary) (routes : List (List Int)) (hl : links.length ≤ 1048576) (ht : list.length ≤ 1048576) (hr : z_IntSS routes ≤ 1048576) : M_impl_LinkLoads links n list routes = some (LL links n list routes) := by
  unfold M_impl_LinkLoads M_impl_isGrooming LL
  simp only [p_areLinks links n (by omega), p_impl_IsValidTributaries list n (by omega), Option.bind_some]
  rcases bt (lks links n) with e1 | e1
  · rcases bt (tribs list n) with e2 | e2
    · rcases bt (decide (routes.length = list.length)) with e3 | e3
      · have h1 := lks12 e1
        have h2 := tribs12 e2
        have h3 : routes.length = list.length := by simpa using e3
        simp only [e1, e2, cond_true, Option.bind_some, Bool.not_true, cond_false, bne_len, e3, Bool.and_self, if_true, bnd]
        rw [grd_t (by omega)]
        simp only [Option.bind_some, Int.toNat_natCast]
        have key : iter (M_impl_LinkLoadsL1 links list routes) N0 (0, List.replicate links.length 0) = some (LLout links.length list routes) := by
          refine iter_list (f := M_impl_LinkLoadsL1 links list routes) routes (fun k (a : List Int) => ((k : Int), a)) (stepOut links.length list) Sum.inl (fun _ a => a.length = links.length) (fun k a x hx ha => ?_) (fun a _ => by simp [M_impl_LinkLoadsL1]) _ (by simp) (by omega)
          have hlt := (List.getElem?_eq_some_iff.1 hx).1
          have q1 : decide ((k : Int) < routes.length) = true := by simp [hlt]
          have hxl : x.length ≤ 1048576 := by have := sum_ge (fun x : List Int => z_IntS x) hx; unfold z_IntSS at hr; unfold z_IntS at this hr; omega
          simp only [M_impl_LinkLoadsL1, q1, cond_true, geti_nat, hx, Option.bind_some, p_in_impl links list k a x a h1 hxl ha (by omega)]
          rw [w64_eq (n := (k : Int) + 1) (by omega) (by omega)]
          unfold stepOut
          have := LLin_len links.length (rateAt list k) x a ha
          cases e : LLin links.length (rateAt list k) x a with
          | inl o => rw [e] at this; exact .inl ⟨o, rfl, this, rfl⟩
          | inr r => exact .inr ⟨_, rfl, rfl⟩
        rw [key]
        simp only [Option.bind_some]
        cases LLout links.length list routes <;> rfl
      · simp [e1, e2, bne_len, e3]
    · simp [e1, e2]
  · simp [e1]
end Vs

namespace Vs
open Go
/-! ### draws -/
structure CurOk (c : Tl1Cur) (m : Nat) : Prop where
  by8 : ∀ x ∈ c.code, 0 ≤ x ∧ x ≤ 255
  len : c.code.length ≤ 65536
  at0 : 0 ≤ c.atF
  atm : c.atF ≤ (m : Int)
theorem and255 (x : Int) : 0 ≤ bits .and .u64 x 255 ∧ bits .and .u64 x 255 ≤ 255 := by
  have h : (BitVec.ofInt (IntKind.bits .u64) x &&& BitVec.ofInt (IntKind.bits .u64) 255).toNat ≤ 255 := by
    rw [BitVec.toNat_and]
    exact Nat.le_trans Nat.and_le_right (by decide)
  unfold bits
  simp only
  generalize (BitVec.ofInt (IntKind.bits .u64) x &&& BitVec.ofInt (IntKind.bits .u64) 255).toNat = k at h
  have : IntKind.wrap .u64 (k : Int) = (k : Int) := by
    unfold IntKind.wrap
    simp [IntKind.bits, IntKind.signed]
    omega
  rw [this]; omega
theorem p_next {c : Tl1Cur} {m : Nat} (h : CurOk c m) (hm : m ≤ 1000000000000) : ∃ b c', M_spec_l1Cur_nextM1 c = some (b, c') ∧ 0 ≤ b ∧ b ≤ 255 ∧ CurOk c' (m + 1) := by
  obtain ⟨h1, h2, h3, h4⟩ := h
  have hb : ∃ b, (cond (decide (c.atF < (c.code.length : Int))) ((geti c.code c.atF).bind fun yZ2 => some (IntKind.wrap .i64 yZ2)) (some 0) : Option Int) = some b ∧ 0 ≤ b ∧ b ≤ 255 := by
    by_cases e : c.atF < (c.code.length : Int)
    · rw [decide_eq_true e, cond_true]
      have hlt : c.atF.toNat < c.code.length := by omega
      have hg : geti c.code c.atF = some c.code[c.atF.toNat] := by
        unfold geti; rw [if_pos h3]; exact List.getElem?_eq_getElem hlt
      have := h1 _ (List.getElem_mem hlt)
      rw [hg]
      refine ⟨c.code[c.atF.toNat], ?_, this.1, this.2⟩
      simp only [Option.bind_some]
      rw [w64_eq (by omega) (by omega)]
    · rw [decide_eq_false e, cond_false]; exact ⟨0, rfl, by omega, by omega⟩
  obtain ⟨b, b1, b2, b3⟩ := hb
  unfold M_spec_l1Cur_nextM1
  rw [b1]
  simp only [Option.bind_some]
  rw [w64_eq (n := c.atF + 1) (by omega) (by omega)]
  by_cases e : c.atF + 1 ≤ (c.code.length : Int)
  · rw [decide_eq_true e, cond_true]
    exact ⟨_, _, rfl, b2, b3, ⟨h1, h2, by simp only; omega, by simp only; omega⟩⟩
  · rw [decide_eq_false e, cond_false]
    have h5 := and255 (Int.fdiv (IntKind.wrap .u64 ((IntKind.wrap .u64 ((IntKind.wrap .u64 (c.seed * 6364136223846793005)) + (IntKind.wrap .u64 b))) + 897897)) (2 ^ (min (Int.toNat 40) (IntKind.bits .u64))))
    refine ⟨_, _, rfl, ?_, ?_, ⟨h1, h2, by simp only; omega, by simp only; omega⟩⟩
    · rw [w64_eq (by omega) (by omega)]; exact h5.1
    · rw [w64_eq (by omega) (by omega)]; exact h5.2
theorem p_pick {c : Tl1Cur} {m : Nat} (n : Int) (h : CurOk c m) (hm : m ≤ 100000000000) : ∃ x c', M_spec_l1Cur_pickM1 n c = some (x, c') ∧ 0 ≤ x ∧ (x < n ∨ x = 0) ∧ CurOk c' (m + 2) := by
  unfold M_spec_l1Cur_pickM1
  by_cases e : n ≤ 1
  · rw [decide_eq_true e, cond_true]
    exact ⟨0, c, rfl, by omega, .inr rfl, ⟨h.by8, h.len, h.at0, by have := h.atm; omega⟩⟩
  · rw [decide_eq_false e, cond_false]
    obtain ⟨b, c1, g1, g2, g3, g4⟩ := p_next h (by omega)
    rw [g1]
    simp only [Option.bind_some]
    by_cases e2 : 200 < n
    · rw [decide_eq_true e2, cond_true]
      obtain ⟨b', c2, k1, k2, k3, k4⟩ := p_next g4 (by omega)
      rw [k1]
      simp only [Option.bind_some]
      rw [grd_t (by omega)]
      simp only [Option.bind_some]
      refine ⟨_, _, rfl, ?_, .inl ?_, k4⟩
      · rw [w64_eq (n := b * 256) (by omega) (by omega), w64_eq (by omega) (by omega)]
        exact Int.tmod_nonneg _ (by omega)
      · exact Int.tmod_lt_of_pos _ (by omega)
    · rw [decide_eq_false e2, cond_false, grd_t (by omega)]
      simp only [Option.bind_some]
      exact ⟨_, _, rfl, Int.tmod_nonneg _ g2, .inl (Int.tmod_lt_of_pos _ (by omega)), ⟨g4.by8, g4.len, g4.at0, by have := g4.atm; omega⟩⟩
theorem p_among2 {c : Tl1Cur} {m : Nat} (l : List Int) (h : CurOk c m) (hm : m ≤ 100000000000) (hl : 0 < l.length) : ∃ x c', M_spec_l1Cur_amongM2 c l = some (x, c', l) ∧ x ∈ l ∧ CurOk c' (m + 2) := by
  obtain ⟨i, c1, g1, g2, g3, g4⟩ := p_pick (l.length : Int) h hm
  unfold M_spec_l1Cur_amongM2
  rw [g1]
  simp only [Option.bind_some]
  have hi : i.toNat < l.length := by omega
  rw [grd_t (by omega)]
  simp only [Option.bind_some, List.getElem?_eq_getElem hi]
  exact ⟨_, _, rfl, List.getElem_mem hi, g4⟩
theorem p_among1 {c : Tl1Cur} {m : Nat} (k : Nat) (l : List Int) (h : CurOk c m) (hm : m ≤ 100000000000) (hk : 0 < k) (hl : k ≤ l.length) : ∃ x c', M_spec_l1Cur_amongM1 0 k c l = some (x, c', l) ∧ x ∈ l ∧ CurOk c' (m + 2) := by
  obtain ⟨i, c1, g1, g2, g3, g4⟩ := p_pick (k : Int) h hm
  unfold M_spec_l1Cur_amongM1
  rw [g1]
  simp only [Option.bind_some]
  have hi : i.toNat < l.length := by omega
  rw [grd_t (by omega)]
  simp only [Option.bind_some, Nat.zero_add, List.getElem?_eq_getElem hi]
  exact ⟨_, _, rfl, List.getElem_mem hi, g4⟩
theorem p_nodes18 {c : Tl1Cur} {m : Nat} (h : CurOk c m) (hm : m ≤ 10000000000) : ∃ x c', M_spec_l1Cur_nodes18M1 c = some (x, c') ∧ 1 ≤ x ∧ x ≤ 9 ∧ CurOk c' (m + 4) := by
  unfold M_spec_l1Cur_nodes18M1
  obtain ⟨i, c1, g1, g2, g3, g4⟩ := p_pick 40 h (by omega)
  rw [g1]
  simp only [bnd, Option.bind_some]
  have hq : 0 ≤ Int.tdiv i 20 ∧ Int.tdiv i 20 ≤ 1 := by rw [Int.tdiv_eq_ediv_of_nonneg g2]; omega
  rw [w64_eq (n := Int.tdiv i 20) (by omega) (by omega), w64_eq (n := 6 + Int.tdiv i 20) (by omega) (by omega), grd_t (by omega), grd_t ⟨trivial, by omega, trivial, by omega⟩]
  simp only [Option.bind_some]
  obtain ⟨x, c2, k1, k2, k3⟩ := p_among1 (6 + Int.tdiv i 20).toNat [2, 3, 4, 5, 6, 8, 1, 9] g4 (by omega) (by omega) (by simp; omega)
  rw [k1]
  simp only [Option.bind_some]
  refine ⟨x, c2, rfl, ?_, ?_, k3⟩
  · simp at k2; omega
  · simp at k2; omega
theorem p_l1MostI (a b : Int) : ∃ r, M_spec_l1Most a b = some r ∧ b ≤ r ∧ a ≤ r := by
  unfold M_spec_l1Most
  by_cases h : b < a
  · rw [decide_eq_true h, cond_true]; exact ⟨a, rfl, by omega, by omega⟩
  · rw [decide_eq_false h, cond_false]; exact ⟨b, rfl, by omega, by omega⟩
theorem p_tributaries {c : Tl1Cur} {m : Nat} (n : Int) (hn : n ≤ 9) (h : CurOk c m) (hm : m ≤ 1000000000) : ∃ l c', M_spec_l1Cur_tributariesM1 n c = some (l, c') ∧ l.length ≤ 30 ∧ CurOk c' (m + 200) := by
  unfold M_spec_l1Cur_tributariesM1
  obtain ⟨r, r1, r2, r3⟩ := p_l1MostI n 2
  have r4 : r ≤ 9 := by
    unfold M_spec_l1Most at r1
    by_cases e : (2 : Int) < n
    · rw [decide_eq_true e, cond_true] at r1; cases r1; exact hn
    · rw [decide_eq_false e, cond_false] at r1; cases r1; omega
  obtain ⟨k, c1, g1, g2, g3, g4⟩ := p_pick 8 h (by omega)
  simp only [r1, g1, Option.bind_some]
  obtain ⟨o, o1, o2, o3⟩ := iter_inv (f := M_spec_l1Cur_tributariesM1L1 r) (fun s => 0 ≤ s.1 ∧ s.1 ≤ 7 ∧ (s.2.1.length : Int) ≤ 7 - s.1 ∧ CurOk s.2.2 (m + 2 + 6 * (7 - s.1.toNat))) (fun s => s.1.toNat) (fun o => o.1.length ≤ 7 ∧ CurOk o.2 (m + 44)) (fun s hI => by
    obtain ⟨j, l, cc⟩ := s
    obtain ⟨i1, i2, i3, i4⟩ := hI
    simp only at i1 i2 i3 i4
    by_cases hj : 0 < j
    · left
      obtain ⟨a, d1, a1, a2, a3, a4⟩ := p_pick r i4 (by omega)
      obtain ⟨b, d2, b1, b2, b3, b4⟩ := p_pick (r - 1) a4 (by omega)
      obtain ⟨x, d3, x1, x2, x3⟩ := p_among2 [1, 2, 3, 4, 5, 6, 7, 10] b4 (by omega) (by simp)
      refine ⟨_, by
        simp only [M_spec_l1Cur_tributariesM1L1, decide_eq_true hj, cond_true, a1, Option.bind_some]
        rw [w64_eq (n := r - 1) (by omega) (by omega), b1]
        simp only [Option.bind_some]
        rw [grd_t (by omega)]
        simp only [Option.bind_some, bnd, x1]
        rw [grd_t (by omega), w64_eq (n := j - 1) (by omega) (by omega)]
        simp only [Option.bind_some]
        rfl, ⟨by simp only; omega, by simp only; omega, by simp only [List.length_append, List.length_cons, List.length_nil]; omega, ⟨x3.by8, x3.len, x3.at0, by have := x3.atm; simp only; omega⟩⟩, by simp only; omega⟩
    · right
      refine ⟨(l, cc), by simp only [M_spec_l1Cur_tributariesM1L1, decide_eq_false hj, cond_false], by simp only; omega, ⟨i4.by8, i4.len, i4.at0, by have := i4.atm; simp only; omega⟩⟩) N0 (k, [], c1) ⟨g2, by omega, by simp; omega, ⟨g4.by8, g4.len, g4.at0, by have := g4.atm; simp only; omega⟩⟩ (N0_lt (by simp only; omega))
  rw [o1]
  simp only [Option.bind_some]
  obtain ⟨q, c3, q1, q2, q3, q4⟩ := p_pick 40 o3 (by omega)
  rw [q1]
  simp only [Option.bind_some]
  have w : ∀ {d : Tl1Cur} {a b : Nat}, a ≤ b → CurOk d a → CurOk d b := fun hab hd => ⟨hd.by8, hd.len, hd.at0, by have := hd.atm; omega⟩
  rcases bt (q == 0) with e | e
  · obtain ⟨x, d3, x1, x2, x3⟩ := p_among2 [0, 8, -1] q4 (by omega) (by simp)
    rw [e, cond_true]
    simp only [bnd, x1, Option.bind_some]
    rw [grd_t (by omega)]
    exact ⟨_, _, rfl, by simp only [List.length_append, List.length_cons, List.length_nil]; omega, w (by omega) x3⟩
  · rw [e, cond_false]
    rcases bt (q == 1) with e | e
    · obtain ⟨x, d3, x1, x2, x3⟩ := p_among2 [0, 1001, 1000] q4 (by omega) (by simp)
      rw [e, cond_true]
      simp only [bnd, x1, Option.bind_some]
      rw [grd_t (by omega)]
      exact ⟨_, _, rfl, by simp only [List.length_append, List.length_cons, List.length_nil]; omega, w (by omega) x3⟩
    · rw [e, cond_false]
      rcases bt (q == 2) with e | e
      · rw [e, cond_true]
        obtain ⟨u, u1, u2, u3⟩ := iter_inv (f := M_spec_l1Cur_tributariesM1L2) (fun s => s.1.length ≤ 13 ∧ CurOk s.2 (m + 46 + 2 * s.1.length)) (fun s => 14 - s.1.length) (fun o => o.1.length ≤ 13 ∧ CurOk o.2 (m + 46 + 30)) (fun s hI => by
          obtain ⟨l, cc⟩ := s
          obtain ⟨i1, i2⟩ := hI
          simp only at i1 i2
          obtain ⟨a, d1, a1, a2, a3, a4⟩ := p_pick 2 i2 (by omega)
          simp only [M_spec_l1Cur_tributariesM1L2, a1, Option.bind_some]
          rw [w64_eq (n := 12 + a) (by omega) (by omega)]
          by_cases hl : (l.length : Int) < 12 + a
          · left
            rw [decide_eq_true hl, cond_true]
            simp only [bnd]
            rw [grd_t (by omega)]
            refine ⟨_, rfl, ⟨by simp only [List.length_append, List.length_cons, List.length_nil]; omega, w (by simp only [List.length_append, List.length_cons, List.length_nil]; omega) a4⟩, by simp only [List.length_append, List.length_cons, List.length_nil]; omega⟩
          · right
            rw [decide_eq_false hl, cond_false]
            exact ⟨_, rfl, i1, w (by omega) a4⟩) N0 (o.1, c3) ⟨by simp only; omega, w (by omega) q4⟩ (N0_lt (by simp only; omega))
        rw [u1]
        exact ⟨_, _, rfl, by simp only; omega, w (by omega) u3⟩
      · rw [e, cond_false]
        exact ⟨_, _, rfl, by simp only; omega, w (by omega) q4⟩
end Vs

namespace Vs
open Go
/-! ### routes of the search -/
variable {links : List TLink} {free : List Int} {to rate : Int}
theorem firstL_all {f : Nat → TLink → Option (List Int)} : ∀ (xs : List TLink) (i : Nat), (∀ j x, xs[j]? = some x → f (i + j) x = none) → firstL f i xs = none
  | [], _, _ => rfl
  | y :: xs, i, h => by
    have h0 : f i y = none := h 0 y rfl
    simp only [firstL, h0]
    exact firstL_all xs (i + 1) fun j x hx => by rw [show i + 1 + j = i + (j + 1) by omega]; exact h (j + 1) x (by simpa using hx)
theorem nxt_ends {x : TLink} {a : Int} (h : ¬ nxt x a < 0) : (x.A = a ∧ x.B = nxt x a) ∨ (x.B = a ∧ x.A = nxt x a) := by
  unfold nxt at h ⊢
  split
  · rename_i e; exact .inl ⟨e, rfl⟩
  · split
    · rename_i e; exact .inr ⟨e, rfl⟩
    · rename_i e1 e2; simp [e1, e2] at h
theorem imp_out : ∀ (c : Nat) (a : Int) (S : Int → Bool) (p : List Int), S a = true → imp links free to rate c a S = some p →
    p.Nodup ∧ ∀ i ∈ p, (∃ x, links[i.toNat]? = some x ∧ (S x.A = false ∨ S x.B = false)) ∧ 0 ≤ i ∧ rate ≤ free.getD i.toNat 0
  | 0, a, S, p, _, h => by
    simp only [imp] at h
    split at h
    · cases h; simp
    · cases h
  | c + 1, a, S, p, hS, h => by
    rw [imp] at h
    split at h
    · cases h; simp
    · obtain ⟨j, x, h1, h2⟩ := firstL_some _ _ h
      split at h2
      · cases h2
      · rename_i hb
        rw [Option.map_eq_some_iff] at h2
        obtain ⟨q, h3, rfl⟩ := h2
        obtain ⟨l1, l2⟩ := imp_out c _ _ q (by simp) h3
        simp only [bad, Nat.zero_add, Bool.or_eq_true, decide_eq_true_eq, not_or, Bool.not_eq_true] at hb
        obtain ⟨⟨b1, b2⟩, b3⟩ := hb
        have he := nxt_ends b1
        refine ⟨List.nodup_cons.2 ⟨fun hm => ?_, l1⟩, fun i hi => ?_⟩
        · obtain ⟨⟨y, y1, y2⟩, _⟩ := l2 _ hm
          rw [Nat.zero_add, Int.toNat_natCast, h1] at y1
          cases y1
          rcases he with ⟨e1, e2⟩ | ⟨e1, e2⟩
          · rw [e1, e2] at y2; simp [hS] at y2
          · rw [e1, e2] at y2; simp [hS] at y2
        · rcases List.mem_cons.1 hi with rfl | hi
          · rw [Nat.zero_add, Int.toNat_natCast]
            refine ⟨⟨x, h1, ?_⟩, by omega, by omega⟩
            rcases he with ⟨e1, e2⟩ | ⟨e1, e2⟩
            · right; rw [e2]; exact b3
            · left
              rw [e2]; exact b3
          · obtain ⟨⟨y, y1, y2⟩, y3⟩ := l2 i hi
            refine ⟨⟨y, y1, ?_⟩, y3⟩
            simp only [Bool.or_eq_false_iff] at y2
            exact y2.imp And.right And.right
theorem imp_mono {free' : List Int} (hF : ∀ k, free'.getD k 0 ≤ free.getD k 0) : ∀ (c : Nat) (a : Int) (S : Int → Bool), imp links free to rate c a S = none → imp links free' to rate c a S = none
  | 0, a, S, h => by simpa [imp] using h
  | c + 1, a, S, h => by
    rw [imp] at h ⊢
    split at h
    · cases h
    · rename_i ha
      rw [if_neg ha]
      refine firstL_all _ _ fun j x hx => ?_
      have := firstL_none _ _ h j x hx
      by_cases hb : bad free' rate S a (0 + j) x = true
      · rw [if_pos hb]
      · rw [if_neg hb]
        have hb2 : ¬ (bad free rate S a (0 + j) x = true) := by
          have := hF (0 + j)
          simp only [bad, Bool.or_eq_true, decide_eq_true_eq, not_or] at hb ⊢
          exact ⟨⟨hb.1.1, by omega⟩, hb.2⟩
        rw [if_neg hb2, Option.map_eq_none_iff] at this
        rw [imp_mono hF c _ _ this]; rfl
theorem upto_none {f g : Nat → Option (List Int)} (h : ∀ k, f k = none → g k = none) : ∀ (n c : Nat), upto f n c = none → upto g n c = none
  | 0, _, _ => rfl
  | n + 1, c, e => by
    simp only [upto] at e ⊢
    cases e2 : f c with
    | some p => rw [e2] at e; cases e
    | none => rw [e2] at e; rw [h c e2]; exact upto_none h n (c + 1) e
theorem rt_mono {F F' : List Int} (hF : ∀ k, F'.getD k 0 ≤ F.getD k 0) {t : TTributary} (h : rt links F t = none) : rt links F' t = none :=
  upto_none (fun k hk => imp_mono hF k _ _ hk) 7 1 h
theorem fit_free (F : List Int) (t : TTributary) : (fit links F t).Nodup ∧ ∀ i ∈ fit links F t, 0 ≤ i ∧ i < links.length ∧ t.Rate ≤ F.getD i.toNat 0 := by
  unfold fit
  cases h : rt links F t with
  | none => simp
  | some p =>
    obtain ⟨k, _, h2⟩ := upto_some _ _ h
    obtain ⟨g1, g2⟩ := imp_out k t.From (at1 t) p (by simp [at1]) h2
    refine ⟨g1, fun i hi => ?_⟩
    obtain ⟨⟨x, x1, _⟩, x2, x3⟩ := g2 i hi
    have := (List.getElem?_eq_some_iff.1 x1).1
    exact ⟨x2, by omega, x3⟩
theorem getD_setI (F : List Int) (k j : Nat) (v : Int) : (F.set k v).getD j 0 = if k = j ∧ j < F.length then v else F.getD j 0 := by
  simp only [List.getD_eq_getElem?_getD, List.getElem?_set]
  by_cases e : k = j
  · subst e
    by_cases h : k < F.length
    · simp [h]
    · simp [h]
  · simp [e]
structure Iv (cp out F : List Int) : Prop where
  lo : out.length = cp.length
  lf : F.length = cp.length
  ok : ∀ k, k < cp.length → 0 ≤ F.getD k 0 ∧ 0 ≤ out.getD k 0 ∧ out.getD k 0 + F.getD k 0 = cp.getD k 0 ∧ cp.getD k 0 ≤ 10000
theorem in_walk (cp : List Int) (r : Int) (hr : 0 ≤ r) (path : List Int) (hn : path.Nodup) : ∀ (p pre out F : List Int), path = pre ++ p → Iv cp out F → (∀ x ∈ p, 0 ≤ x ∧ x < cp.length ∧ r ≤ F.getD x.toNat 0) →
    ∃ out', walkL (stepIn cp.length r path) Sum.inl pre.length p out = .inl out' ∧ Iv cp out' (takes r p F) ∧ ∀ k, (takes r p F).getD k 0 ≤ F.getD k 0
  | [], pre, out, F, hp, hI, _ => ⟨out, rfl, hI, fun k => Int.le_refl _⟩
  | x :: p, pre, out, F, hp, hI, hx => by
    obtain ⟨x0, x1, x2⟩ := hx x (by simp)
    have hk := hI.ok x.toNat (by omega)
    have hnx : x ∉ pre ∧ x ∉ p := by
      rw [hp, List.nodup_append] at hn
      obtain ⟨_, n2, n3⟩ := hn
      exact ⟨fun h => n3 x h x (by simp) rfl, (List.nodup_cons.1 n2).1⟩
    have hw1 : IntKind.wrap .i64 (F.getD x.toNat 0 - r) = F.getD x.toNat 0 - r := w64_eq (by omega) (by omega)
    have hw2 : IntKind.wrap .i64 (out.getD x.toNat 0 + r) = out.getD x.toNat 0 + r := w64_eq (by omega) (by omega)
    have hle : ∀ k, (F.set x.toNat (F.getD x.toNat 0 - r)).getD k 0 ≤ F.getD k 0 := fun k => by
      rw [getD_setI]; split
      · rename_i e; rw [e.1]; omega
      · omega
    obtain ⟨out', g1, g2, g3⟩ := in_walk cp r hr path hn p (pre ++ [x]) (out.set x.toNat (out.getD x.toNat 0 + r)) (F.set x.toNat (F.getD x.toNat 0 - r)) (by simp [hp]) ⟨by simp [hI.lo], by simp [hI.lf], fun k hk2 => by
      have := hI.ok k hk2
      rw [getD_setI, getD_setI, hI.lo, hI.lf]
      by_cases e : x.toNat = k
      · subst e; simp only [hk2, and_self, if_true]; omega
      · simp only [e, false_and, if_false]; exact this⟩ (fun y hy => by
      obtain ⟨y0, y1, y2⟩ := hx y (by simp [hy])
      refine ⟨y0, y1, ?_⟩
      rw [getD_setI, if_neg (fun e => hnx.2 (by rw [show x = y by omega]; exact hy))]
      exact y2)
    have hst : stepIn cp.length r path pre.length x out = .inl (out.set x.toNat (out.getD x.toNat 0 + r)) := by
      unfold stepIn
      have e1 : wi x 0 ((cp.length : Int) - 1) = true := by simp [wi]; omega
      have e2 : (path.take pre.length).contains x = false := by rw [hp, List.take_left]; simpa using hnx.1
      rw [e1, e2, hw2]; rfl
    refine ⟨out', ?_, ?_, fun k => ?_⟩
    · simp only [walkL, hst]; simpa using g1
    · rw [takes, hw1]; exact g2
    · rw [takes, hw1]; exact Int.le_trans (g3 k) (hle k)
theorem out_walk (cp : List Int) (hcp : cp.length = links.length) (list : List TTributary) : ∀ (ts pre : List TTributary) (out F : List Int), list = pre ++ ts → (∀ t ∈ ts, t.From ≠ t.To ∧ 0 ≤ t.Rate) → Iv cp out F →
    ∃ out', walkL (stepOut cp.length list) Sum.inl pre.length (paths links ts F) out = .inl out' ∧ Iv cp out' (rest links ts F) ∧ (∀ k, (rest links ts F).getD k 0 ≤ F.getD k 0) ∧ ∀ x ∈ ts.zip (paths links ts F), x.2.length = 0 → rt links (rest links ts F) x.1 = none
  | [], pre, out, F, _, _, hI => ⟨out, rfl, hI, fun k => Int.le_refl _, by simp⟩
  | t :: ts, pre, out, F, hl, ht, hI => by
    obtain ⟨t1, t2⟩ := ht t (by simp)
    obtain ⟨f1, f2⟩ := fit_free (links := links) F t
    obtain ⟨o1, a1, a2, a3⟩ := in_walk cp t.Rate t2 (fit links F t) f1 (fit links F t) [] out F rfl hI (fun x hx => by rw [hcp]; exact f2 x hx)
    obtain ⟨o2, b1, b2, b3, b4⟩ := out_walk cp hcp list ts (pre ++ [t]) o1 (takes t.Rate (fit links F t) F) (by simp [hl]) (fun u hu => ht u (by simp [hu])) a2
    have hr : rateAt list pre.length = t.Rate := by unfold rateAt; rw [hl]; simp
    have hst : stepOut cp.length list pre.length (fit links F t) out = .inl o1 := by
      unfold stepOut LLin
      rw [hr, show (0 : Nat) = ([] : List Int).length from rfl, a1]
    have hle : ∀ k, (rest links (t :: ts) F).getD k 0 ≤ F.getD k 0 := fun k => Int.le_trans (b3 k) (a3 k)
    refine ⟨o2, ?_, b2, hle, fun x hx h0 => ?_⟩
    · simp only [paths, walkL, hst]; simpa using b1
    · simp only [paths, List.zip_cons_cons, List.mem_cons] at hx
      rcases hx with rfl | hx
      · refine rt_mono hle ?_
        cases hr : rt links F t with
        | none => rfl
        | some p =>
          have := rs_pos ((rt_rs t t1).symm.trans hr)
          simp only [fit, hr, Option.getD_some] at h0
          omega
      · exact b4 x hx h0
end Vs

namespace Vs
open Go
theorem p_links {c : Tl1Cur} {m : Nat} (n : Int) (hn : n ≤ 9) (h : CurOk c m) (hm : m ≤ 1000000000) : ∃ l c', M_spec_l1Cur_linksM1 n c = some (l, c') ∧ l.length ≤ 30 ∧ CurOk c' (m + 200) := by
  unfold M_spec_l1Cur_linksM1
  obtain ⟨r, r1, r2, r3⟩ := p_l1MostI n 2
  have r4 : r ≤ 9 := by
    unfold M_spec_l1Most at r1
    by_cases e : (2 : Int) < n
    · rw [decide_eq_true e, cond_true] at r1; cases r1; exact hn
    · rw [decide_eq_false e, cond_false] at r1; cases r1; omega
  obtain ⟨k, c1, g1, g2, g3, g4⟩ := p_pick 9 h (by omega)
  simp only [r1, g1, Option.bind_some]
  obtain ⟨o, o1, o2, o3⟩ := iter_inv (f := M_spec_l1Cur_linksM1L1 r) (fun s => 0 ≤ s.1 ∧ s.1 ≤ 8 ∧ (s.2.1.length : Int) ≤ 8 - s.1 ∧ CurOk s.2.2 (m + 2 + 6 * (8 - s.1.toNat))) (fun s => s.1.toNat) (fun o => o.1.length ≤ 8 ∧ CurOk o.2 (m + 50)) (fun s hI => by
    obtain ⟨j, l, cc⟩ := s
    obtain ⟨i1, i2, i3, i4⟩ := hI
    simp only at i1 i2 i3 i4
    by_cases hj : 0 < j
    · left
      obtain ⟨a, d1, a1, a2, a3, a4⟩ := p_pick r i4 (by omega)
      obtain ⟨b, d2, b1, b2, b3, b4⟩ := p_pick (r - 1) a4 (by omega)
      obtain ⟨x, d3, x1, x2, x3⟩ := p_among2 [0, 3, 5, 10, 10, 20] b4 (by omega) (by simp)
      refine ⟨_, by
        simp only [M_spec_l1Cur_linksM1L1, decide_eq_true hj, cond_true, a1, Option.bind_some]
        rw [w64_eq (n := r - 1) (by omega) (by omega), b1]
        simp only [Option.bind_some]
        rw [grd_t (by omega)]
        simp only [Option.bind_some, bnd, x1]
        rw [grd_t (by omega), w64_eq (n := j - 1) (by omega) (by omega)]
        simp only [Option.bind_some]
        rfl, ⟨by simp only; omega, by simp only; omega, by simp only [List.length_append, List.length_cons, List.length_nil]; omega, ⟨x3.by8, x3.len, x3.at0, by have := x3.atm; simp only; omega⟩⟩, by simp only; omega⟩
    · right
      refine ⟨(l, cc), by simp only [M_spec_l1Cur_linksM1L1, decide_eq_false hj, cond_false], by simp only; omega, ⟨i4.by8, i4.len, i4.at0, by have := i4.atm; simp only; omega⟩⟩) N0 (k, [], c1) ⟨g2, by omega, by simp; omega, ⟨g4.by8, g4.len, g4.at0, by have := g4.atm; simp only; omega⟩⟩ (N0_lt (by simp only; omega))
  rw [o1]
  simp only [Option.bind_some]
  obtain ⟨q, c3, q1, q2, q3, q4⟩ := p_pick 40 o3 (by omega)
  rw [q1]
  simp only [Option.bind_some]
  have w : ∀ {d : Tl1Cur} {a b : Nat}, a ≤ b → CurOk d a → CurOk d b := fun hab hd => ⟨hd.by8, hd.len, hd.at0, by have := hd.atm; omega⟩
  rcases bt (q == 0) with e | e
  · obtain ⟨x, d3, x1, x2, x3⟩ := p_among2 [1, 8, -1] q4 (by omega) (by simp)
    rw [e, cond_true]
    simp only [bnd, x1, Option.bind_some]
    rw [grd_t (by omega)]
    exact ⟨_, _, rfl, by simp only [List.length_append, List.length_cons, List.length_nil]; omega, w (by omega) x3⟩
  · rw [e, cond_false]
    rcases bt (q == 1) with e | e
    · obtain ⟨x, d3, x1, x2, x3⟩ := p_among2 [-1, 10001] q4 (by omega) (by simp)
      rw [e, cond_true]
      simp only [bnd, x1, Option.bind_some]
      rw [grd_t (by omega)]
      exact ⟨_, _, rfl, by simp only [List.length_append, List.length_cons, List.length_nil]; omega, w (by omega) x3⟩
    · rw [e, cond_false]
      exact ⟨_, _, rfl, by omega, w (by omega) q4⟩
theorem p_DrawGroomAll (code : List Int) (h8 : ∀ x ∈ code, 0 ≤ x ∧ x ≤ 255) (hl : code.length ≤ 65536) : ∃ k n l, M_spec_DrawGroomAll code = some (k, n, l) ∧ k.length ≤ 30 ∧ l.length ≤ 30 := by
  unfold M_spec_DrawGroomAll
  obtain ⟨n, c1, g1, g2, g3, g4⟩ := p_nodes18 (c := ⟨code, 0, 0⟩) (m := 0) ⟨h8, hl, Int.le_refl _, Int.le_refl _⟩ (by omega)
  rw [g1]
  simp only [Option.bind_some]
  obtain ⟨k, c2, k1, k2, k3⟩ := p_links n g3 g4 (by omega)
  rw [k1]
  simp only [Option.bind_some]
  obtain ⟨l, c3, l1, l2, _⟩ := p_tributaries n g3 k3 (by omega)
  rw [l1]
  exact ⟨_, _, _, rfl, k2, l2⟩
theorem p_vInts (a : List Int) (h : a.length ≤ 1048576) : M_laws_vInts a a = some true := by
  unfold M_laws_vInts
  rw [bne_self_eq_false, cond_false]
  have key := iter_list (f := M_laws_vIntsL1 a a) a (fun i (_ : Unit) => (i : Int)) (fun _ _ _ => .inl ()) (fun _ => (.inl () : Unit ⊕ Bool)) (fun _ _ => True) (fun i u x hx _ => by
    have hlt := (List.getElem?_eq_some_iff.1 hx).1
    refine .inl ⟨(), rfl, trivial, ?_⟩
    have h1 : decide ((i : Int) < a.length) = true := by simp [hlt]
    simp only [M_laws_vIntsL1, h1, cond_true, geti_nat, hx, Option.bind_some, bne_self_eq_false, cond_false]
    rw [w64_eq (by omega) (by omega)]
    rfl) (fun _ _ => by simp [M_laws_vIntsL1]) () trivial (by omega)
  have e0 : ((0 : Nat) : Int) = 0 := rfl
  simp only [e0] at key
  rw [key]
  have hw : ∀ (xs : List Int) (i : Nat), walkL (fun (_ : Nat) (_ : Int) (_ : Unit) => (.inl () : Unit ⊕ (Unit ⊕ Bool))) (fun _ => .inl ()) i xs () = .inl () := by
    intro xs; induction xs with
    | nil => intro i; rfl
    | cons x xs ih => intro i; exact ih (i + 1)
  rw [hw]; rfl
theorem p_impl_GA (links : List TLink) (n : Int) (ts : List TTributary) (hl : links.length ≤ 1048576) (ht : ts.length ≤ 1048576) : M_impl_GroomAll links n ts = some (if lks links n && tribs ts n then (paths links ts (caps links), rest links ts (caps links), true) else ([], [], false)) := by
  unfold M_impl_GroomAll M_impl_isGrooming
  simp only [p_areLinks links n (by omega), p_impl_IsValidTributaries ts n (by omega), Option.bind_some]
  rcases bt (lks links n) with e1 | e1
  · rcases bt (tribs ts n) with e2 | e2
    · simp [e1, e2, p_groomed n ts e1 e2]
    · simp [e1, e2]
  · simp [e1]
theorem bneL {α β : Type} {a : List α} {b : List β} (h : a.length = b.length) : ((a.length : Int) != (b.length : Int)) = false := by rw [h, bne_self_eq_false]
theorem p_FnGrooming (code : List Int) (hb : code.length ≤ 9223372036854775807 ∧ ∀ x ∈ code, 0 ≤ x ∧ x ≤ 255) : M_laws_FnGrooming code = some true := by
  have h8 := hb.2
  clear hb
  unfold M_laws_FnGrooming
  have hb : M_laws_vBig code = some (decide (65536 < (code.length : Int))) := rfl
  rw [hb]
  simp only [Option.bind_some]
  by_cases hbig : (65536 : Int) < code.length
  · rw [decide_eq_true hbig, cond_true]
  rw [decide_eq_false hbig, cond_false]
  obtain ⟨links, n, ts, d1, d2, d3⟩ := p_DrawGroomAll code h8 (by omega)
  rw [d1]
  simp only [Option.bind_some]
  rw [p_impl_GA links n ts (by omega) (by omega), p_GroomAll n ts (by omega) (by omega)]
  rcases bt (lks links n && tribs ts n) with e | e
  · obtain ⟨e1, e2⟩ := Bool.and_eq_true_iff.1 e
    obtain ⟨g1, _, g3⟩ := lks_good e1
    obtain ⟨t1, t2⟩ := tr_good e2
    have hcl : (caps links).length = links.length := by simp [caps]
    have hcv : ∀ (k : Nat) (x : TLink), links[k]? = some x → (caps links).getD k 0 = x.Capacity := fun k x hx => by simp [caps, List.getD_eq_getElem?_getD, hx]
    have hI0 : Iv (caps links) (List.replicate links.length 0) (caps links) := ⟨by simp [caps], rfl, fun k hk => by
      rw [hcl] at hk
      have hx := List.getElem?_eq_getElem hk
      have := (g3 _ (List.getElem_mem hk)).2
      have hz : (List.replicate links.length (0 : Int)).getD k 0 = 0 := by simp [List.getD_eq_getElem?_getD, List.getElem?_replicate]; split <;> rfl
      rw [hcv k _ hx, hz]; omega⟩
    obtain ⟨out, o1, o2, o3, o4⟩ := out_walk (links := links) (caps links) hcl ts ts [] (List.replicate links.length 0) (caps links) rfl (fun t ht => ⟨(t2 t ht).1.1, by have := (t2 t ht).2; omega⟩) hI0
    have hLL : M_impl_LinkLoads links n ts (paths links ts (caps links)) = some (out, true) := by
      have hz : z_IntSS (paths links ts (caps links)) ≤ 1048576 := by
        have hp : ∀ (ts : List TTributary) (F : List Int), F.length = links.length → z_IntSS (paths links ts F) ≤ 8 * ts.length := by
          intro ts
          induction ts with
          | nil => intro F h; simp [paths, z_IntSS]
          | cons t ts ih =>
            intro F h
            have h1 := (fit_in h t).1
            have h2 := ih (takes t.Rate (fit links F t) F) (by rw [takes_len]; exact h)
            unfold z_IntSS z_IntS at h2 ⊢
            simp only [paths, List.length_cons, List.map_cons, List.sum_cons]
            omega
        have := hp ts (caps links) hcl
        omega
      rw [p_impl_LL links n ts _ (by omega) (by omega) hz]
      unfold LL LLout
      have o1' : walkL (stepOut links.length ts) Sum.inl 0 (paths links ts (caps links)) (List.replicate links.length 0) = .inl out := by rw [hcl] at o1; exact o1
      rw [e, paths_len, decide_eq_true rfl, o1']
      rfl
    have hro : out.length = links.length := by rw [o2.lo, hcl]
    have hrl : (rest links ts (caps links)).length = links.length := by rw [o2.lf, hcl]
    rw [e, if_pos rfl]
    simp only [Option.bind_some]
    rw [p_vInts (rest links ts (caps links)) (by omega)]
    simp only [beq_self_eq_true, Bool.not_true, cond_false, cond_true, Option.bind_some]
    rw [hLL]
    simp only [Option.bind_some, Bool.not_true, cond_false]
    rw [bneL hro, bneL hrl, bneL (paths_len links ts (caps links))]
    simp only [cond_false, Option.bind_some]
    have key1 := iter_list (f := M_laws_FnGroomingL1 (links, n, ts) (paths links ts (caps links), rest links ts (caps links), true) (out, true)) links (fun i (_ : Unit) => (i : Int)) (fun _ _ _ => .inl ()) (fun _ => (.inl () : Unit ⊕ Bool)) (fun _ _ => True) (fun i u x hx _ => by
      have hlt := (List.getElem?_eq_some_iff.1 hx).1
      refine .inl ⟨(), rfl, trivial, ?_⟩
      have h1 : decide ((i : Int) < links.length) = true := by simp [hlt]
      obtain ⟨k1, k2, k3, k4⟩ := o2.ok i (by omega)
      have ho : out[i]? = some (out.getD i 0) := by rw [List.getD_eq_getElem?_getD, List.getElem?_eq_getElem (by omega)]; rfl
      have hr : (rest links ts (caps links))[i]? = some ((rest links ts (caps links)).getD i 0) := by rw [List.getD_eq_getElem?_getD, List.getElem?_eq_getElem (by omega)]; rfl
      rw [hcv i x hx] at k3 k4
      simp only [M_laws_FnGroomingL1, h1, cond_true, Int.toNat_natCast, hx, ho, hr]
      rw [grd_t (by omega), grd_t (by omega), grd_t (by omega)]
      simp only [Option.bind_some]
      rw [w64_eq (n := out.getD i 0 + (rest links ts (caps links)).getD i 0) (by omega) (by omega), k3, bne_self_eq_false, cond_false, decide_eq_false (by omega : ¬ (rest links ts (caps links)).getD i 0 < 0), w64_eq (by omega) (by omega)]
      rfl) (fun _ _ => by simp [M_laws_FnGroomingL1]) () trivial (by omega)
    have e0 : ((0 : Nat) : Int) = 0 := rfl
    simp only [e0] at key1
    have hw : ∀ (xs : List TLink) (i : Nat), walkL (fun (_ : Nat) (_ : TLink) (_ : Unit) => (.inl () : Unit ⊕ (Unit ⊕ Bool))) (fun _ => .inl ()) i xs () = .inl () := by
      intro xs; induction xs with
      | nil => intro i; rfl
      | cons x xs ih => intro i; exact ih (i + 1)
    rw [key1, hw]
    simp only [Option.bind_some]
    have hzl : (ts.zip (paths links ts (caps links))).length = ts.length := by rw [List.length_zip, paths_len]; omega
    have key2 := iter_fold (f := M_laws_FnGroomingL2 (links, n, ts) (paths links ts (caps links), rest links ts (caps links), true)) (ts.zip (paths links ts (caps links))) (fun i (b : Int) => (b, (i : Int))) (fun b x => if x.2.length = 0 then IntKind.wrap .i64 (b + x.1.Rate) else b) (fun b => (.inl b : Int ⊕ Bool)) (fun _ _ => True) (fun i b x hx _ => by
      have hlt := (List.getElem?_eq_some_iff.1 hx).1
      rw [hzl] at hlt
      obtain ⟨x1, x2⟩ := List.getElem?_zip_eq_some.1 hx
      refine ⟨trivial, ?_⟩
      have h1 : decide ((i : Int) < ts.length) = true := by simp [hlt]
      have hpl := paths_len links ts (caps links)
      simp only [M_laws_FnGroomingL2, h1, cond_true, Int.toNat_natCast, x1, x2]
      rw [grd_t (by omega), grd_t (by omega)]
      simp only [Option.bind_some]
      rw [w64_eq (n := (i : Int) + 1) (by omega) (by omega)]
      by_cases hz : x.2.length = 0
      · have hz2 : ((x.2.length : Int) == 0) = true := by rw [beq_iff_eq]; omega
        rw [hz2, cond_true, if_pos hz, p_impl_Route n x.1 (by omega) (by omega)]
        have hno := o4 x (List.mem_of_getElem? hx) hz
        have hok : rtOk links (rest links ts (caps links)) n x.1 = true := by
          unfold rtOk
          rw [e1, decide_eq_true hrl]
          have q1 : tribs [x.1] n = true := by
            have hm := List.mem_of_getElem? x1
            have e2' := e2
            unfold tribs at e2' ⊢
            simp only [Bool.and_eq_true, decide_eq_true_eq, Bool.not_eq_true', List.any_eq_false] at e2' ⊢
            exact ⟨⟨e2'.1.1, by simp⟩, fun y hy => by simp at hy; subst hy; exact e2'.2 _ hm⟩
          have q2 : ((rest links ts (caps links)).any fun y => !wi y 0 10000) = false := by
            rw [List.any_eq_false]
            intro y hy
            obtain ⟨k, hk, rfl⟩ := List.getElem_of_mem hy
            obtain ⟨k1, k2, k3, k4⟩ := o2.ok k (by omega)
            have : (rest links ts (caps links)).getD k 0 = (rest links ts (caps links))[k] := by rw [List.getD_eq_getElem?_getD, List.getElem?_eq_getElem hk]; rfl
            rw [this] at k1 k3
            simp only [wi, Bool.not_eq_true, Bool.not_eq_false', Bool.and_eq_true, decide_eq_true_eq]
            omega
          rw [q1, q2]; rfl
        unfold rtR
        rw [hok, if_pos rfl, hno]
        rfl
      · have hz2 : ((x.2.length : Int) == 0) = false := by rw [beq_eq_false_iff_ne]; omega
        rw [hz2, cond_false, if_neg hz]; rfl) (fun b _ => by simp [M_laws_FnGroomingL2, hzl]) 0 trivial (by omega)
    simp only [e0] at key2
    rw [key2]
    simp only [Option.bind_some]
    rw [p_impl_Blocked n ts (by omega) (by omega), e, if_pos rfl, blk_zip links ts (caps links) 0 fun t ht => (t2 t ht).1.1]
    simp
  · have hv : M_laws_vInts [] [] = some true := p_vInts [] (by simp)
    simp [e, hv]
end Vs

