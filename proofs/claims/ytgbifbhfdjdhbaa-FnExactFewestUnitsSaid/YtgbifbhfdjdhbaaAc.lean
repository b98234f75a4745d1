/-
  Part of the proof that the law FnExactFewestUnits returns true at every input; no condition beside the row's own.
-/
import Derived.Test.YtgbifbhfdjdhbaaFe
import Derived.Test.YtgbifbhfdjdhbaaAa
set_option linter.defProp false
set_option linter.unusedSimpArgs false
set_option linter.unusedVariables false
namespace Vs
open Go
def z_IntS (xs : (List Int)) : Nat := xs.length
def ok_IntS (xs : (List Int)) : Prop := xs.length ≤ 9223372036854775807
theorem p_toIntS (xs : (List Int)) (hl : z_IntS xs ≤ 1048576) : M_laws_toIntS xs = some xs := by
  unfold M_laws_toIntS
  have hlen : xs.length ≤ 1048576 := by unfold z_IntS at hl; omega
  have key := fun l0 (h0 : l0.length = xs.length) => iter_copy (f := M_laws_toIntSL1 xs) xs id l0 h0 (fun i l x y hx hy hll => by
    have hlt := (List.getElem?_eq_some_iff.1 hx).1
    have h1 : decide ((i : Int) < xs.length) = true := by simp [hlt]
    have h2 : (0 ≤ (i : Int) ∧ (i : Int) < (l.length : Int)) := by omega
    simp only [M_laws_toIntSL1, h1, cond_true, geti_nat, hx, Option.bind_some, grd_t h2, Int.toNat_natCast, hy, bnd, id]
    rw [w64_eq (by omega) (by omega)]; rfl) (fun l => by simp [M_laws_toIntSL1]) (by omega)
  rw [grd_t (by omega)]
  simp only [Option.bind_some, bnd]
  rw [key _ (by simp)]; simp
theorem p_eqIntS (xs : (List Int)) (hl : z_IntS xs ≤ 1048576) : M_laws_eqIntS xs xs = some true := by
  unfold M_laws_eqIntS
  have hlen : xs.length ≤ 1048576 := by unfold z_IntS at hl; omega
  rw [eq_loop (f := M_laws_eqIntSL1 xs xs) xs (fun i x hx => by
    have hlt := (List.getElem?_eq_some_iff.1 hx).1
    have h1 : decide ((i : Int) < xs.length) = true := by simp [hlt]
    simp only [M_laws_eqIntSL1, h1, cond_true, geti_nat, hx, Option.bind_some, bne_self_eq_false, cond_false]
    rw [w64_eq (by omega) (by omega)]; rfl) (by simp [M_laws_eqIntSL1]) (by omega)]
  simp
end Vs

namespace Vs
open Go
theorem p_IndexFunc_Lint_int (xs : List Int) (f : Int → Option Bool) (p : Int → Bool) (hf : ∀ x, f x = some (p x)) (hl : xs.length < 2 ^ 62) : ∃ r, M_slices_IndexFunc_Lint_int xs f = some r ∧ (decide (0 ≤ r) = xs.any p) := by
  obtain ⟨b, key, hb⟩ := iter_index (f := M_slices_IndexFunc_Lint_intL1 xs f) xs p (fun i x hx => by
    have hlt := (List.getElem?_eq_some_iff.1 hx).1
    have h1 : decide ((i : Int) < xs.length) = true := by simp [hlt]
    simp only [M_slices_IndexFunc_Lint_intL1, h1, cond_true, geti_nat, hx, hf, Option.bind_some]
    rw [w64_eq (by omega) (by omega)]
    rcases bt (p x) with e | e <;> simp [e]) (by simp [M_slices_IndexFunc_Lint_intL1]) (by omega)
  unfold M_slices_IndexFunc_Lint_int
  rw [key]
  rcases hb with ⟨rfl, h⟩ | ⟨k, rfl, h⟩
  · exact ⟨-1, rfl, by rw [h]; rfl⟩
  · exact ⟨k, rfl, by rw [h]; simp⟩
theorem p_ContainsFunc_Lint_int (xs : List Int) (f : Int → Option Bool) (p : Int → Bool) (hf : ∀ x, f x = some (p x)) (hl : xs.length < 2 ^ 62) : M_slices_ContainsFunc_Lint_int xs f = some (xs.any p) := by
  unfold M_slices_ContainsFunc_Lint_int
  obtain ⟨r, h1, h2⟩ := p_IndexFunc_Lint_int xs f p hf hl
  simp [h1, h2]
end Vs

namespace Vs
open Go
def wi (x a b : Int) : Bool := decide (a ≤ x) && decide (x ≤ b)
theorem p_within (x a b : Int) : M_impl_within x a b = some (wi x a b) := by
  unfold M_impl_within wi; by_cases h : a ≤ x <;> simp [h]
theorem p_l1In (x a b : Int) : M_spec_l1In x a b = some (wi x a b) := by
  unfold M_spec_l1In wi; by_cases h : a ≤ x <;> simp [h]
theorem bounded_all {α : Type} {f : Int → Option (Int ⊕ (Unit ⊕ Bool))} (xs : List α) (p : α → Bool)
    (step : ∀ (i : Nat) x, xs[i]? = some x → f i = some (if i ≤ 12 then (if !p x then .inr (.inr false) else .inl ((i + 1 : Nat) : Int)) else .inr (.inl ())))
    (h2 : f xs.length = some (.inr (.inl ()))) (hl : xs.length < 18446744073709551615) :
    ∃ b, iter f N0 0 = some b ∧ (b = .inr false ∧ (xs.any fun t => !p t) = true ∨ b = .inl () ∧ (xs.length ≤ 13 → (xs.any fun t => !p t) = false)) := by
  have key : iter f N0 0 = some (walkL (fun i x (_ : Unit) => if i ≤ 12 then (if !p x then Sum.inr (Sum.inr false) else .inl ()) else .inr (.inl ())) (fun _ => Sum.inl ()) 0 xs ()) := by
    refine iter_list xs (fun i (_ : Unit) => (i : Int)) _ _ (fun _ _ => True) (fun i a x hx _ => ?_) (fun a _ => h2) () trivial hl
    rw [step i x hx]
    by_cases h2 : i ≤ 12
    · rcases bt (p x) with e | e
      · exact .inl ⟨(), by simp [h2, e], trivial, by simp [h2, e]⟩
      · exact .inr ⟨_, by simp [h2, e]; rfl, by simp [h2, e]⟩
    · exact .inr ⟨_, by simp [h2]; rfl, by simp [h2]⟩
  refine ⟨_, key, ?_⟩
  have gen : ∀ (ys : List α) (i : Nat), walkL (fun i x (_ : Unit) => if i ≤ 12 then (if !p x then Sum.inr (Sum.inr false) else .inl ()) else .inr (.inl ())) (fun _ => (Sum.inl () : Unit ⊕ Bool)) i ys () = .inr false ∧ (ys.any fun t => !p t) = true ∨
      walkL (fun i x (_ : Unit) => if i ≤ 12 then (if !p x then Sum.inr (Sum.inr false) else .inl ()) else .inr (.inl ())) (fun _ => (Sum.inl () : Unit ⊕ Bool)) i ys () = .inl () ∧ (i + ys.length ≤ 13 → (ys.any fun t => !p t) = false) := by
    intro ys
    induction ys with
    | nil => intro i; right; simp [walkL]
    | cons y ys ih =>
      intro i
      simp only [walkL, List.any_cons, List.length_cons]
      by_cases h2 : i ≤ 12
      · rcases bt (p y) with h | h
        · simp only [h2, h, if_true, Bool.not_true, Bool.false_eq_true, if_false, Bool.false_or]
          rcases ih (i + 1) with ⟨a, b⟩ | ⟨a, b⟩
          · exact .inl ⟨a, b⟩
          · exact .inr ⟨a, fun h => b (by omega)⟩
        · left; simp [h2, h]
      · right; simp only [h2, if_false]; exact ⟨trivial, fun h => by omega⟩
  rcases gen xs 0 with h | ⟨h, h'⟩
  · exact .inl h
  · exact .inr ⟨h, fun e => h' (by omega)⟩
theorem iter_fold {α A S B : Type} {f : S → Option (S ⊕ B)} (xs : List α) (st : Nat → A → S) (g : A → α → A) (fin : A → B) (I : Nat → A → Prop)
    (h1 : ∀ i a x, xs[i]? = some x → I i a → I (i + 1) (g a x) ∧ f (st i a) = some (.inl (st (i + 1) (g a x))))
    (h2 : ∀ a, I xs.length a → f (st xs.length a) = some (.inr (fin a))) (a0 : A) (h0 : I 0 a0) (hl : xs.length < 18446744073709551615) :
    iter f N0 (st 0 a0) = some (fin (xs.foldl g a0)) := by
  rw [iter_list xs st (fun _ x a => .inl (g a x)) fin I (fun i a x hx hI => .inl ⟨g a x, rfl, (h1 i a x hx hI).1, (h1 i a x hx hI).2⟩) h2 a0 h0 hl]
  have gen : ∀ (ys : List α) (i : Nat) (a : A), walkL (fun _ x a => (.inl (g a x) : A ⊕ B)) fin i ys a = fin (ys.foldl g a) := by
    intro ys
    induction ys with
    | nil => intro i a; rfl
    | cons y ys ih => intro i a; exact ih (i + 1) (g a y)
  rw [gen]

def packOk (xs : List Int) (cap : Int) : Bool := wi cap 1 10000 && decide (xs.length ≤ 12) && !xs.any fun t => !wi t 1 cap
theorem p_isPacking (xs : List Int) (cap : Int) (hl : xs.length < 2 ^ 62) : M_impl_isPacking xs cap 12 = some (packOk xs cap) := by
  unfold M_impl_isPacking packOk
  have hc : ∀ x, M_impl_isPacking_c1 x cap = some (!wi x 1 cap) := fun x => by unfold M_impl_isPacking_c1; rw [p_within]; rfl
  simp only [p_within, Option.bind_some, p_ContainsFunc_Lint_int xs (fun x0 => M_impl_isPacking_c1 x0 cap) (fun x => !wi x 1 cap) hc hl]
  have : decide ((xs.length : Int) ≤ 12) = decide (xs.length ≤ 12) := by simp; omega
  rw [this]
  cases wi cap 1 10000 <;> cases decide (xs.length ≤ 12) <;> simp
theorem p_l18Rates (xs : List Int) (cap : Int) (hl : xs.length < 2 ^ 62) : M_spec_l18Rates xs cap = some (packOk xs cap) := by
  unfold M_spec_l18Rates
  obtain ⟨b, key, hb⟩ := bounded_all (f := M_spec_l18RatesL1 xs cap) xs (fun t => wi t 1 cap) (fun i x hx => by
    have hlt := (List.getElem?_eq_some_iff.1 hx).1
    simp only [M_spec_l18RatesL1, geti_nat, hx, Option.bind_some, p_l1In]
    have h1 : decide ((i : Int) < xs.length) = true := by simp [hlt]
    rw [h1]
    by_cases h2 : i ≤ 12
    · have : decide ((i : Int) ≤ 12) = true := by simp; omega
      simp only [cond_true, Option.bind_some, this, h2, if_true]
      rw [w64_eq (by omega) (by omega)]
      rcases bt (wi x 1 cap) with e1 | e1 <;> simp [e1]
    · have : decide ((i : Int) ≤ 12) = false := by simp; omega
      simp [this, h2]) (by simp [M_spec_l18RatesL1]) (by omega)
  rw [key]
  have hd : decide ((xs.length : Int) ≤ 12) = decide (xs.length ≤ 12) := by simp; omega
  rcases hb with ⟨rfl, h2⟩ | ⟨rfl, h2⟩
  · simp [packOk, h2]
  · simp only [Option.bind_some, p_l1In, packOk, hd]
    by_cases h3 : xs.length ≤ 12
    · rw [h2 (by omega)]; cases wi cap 1 10000 <;> simp [h3]
    · cases wi cap 1 10000 <;> simp [h3]
def nums (xs : List Int) : List Int := xs.foldl (fun (a : List Int) _ => a ++ [(a.length : Int)]) []
theorem nums_ok (xs : List Int) : (nums xs).length = xs.length ∧ ∀ y ∈ nums xs, 0 ≤ y ∧ y < xs.length := by
  have gen : ∀ (xs a : List Int), (∀ y ∈ a, 0 ≤ y ∧ y < a.length) → (xs.foldl (fun (a : List Int) _ => a ++ [(a.length : Int)]) a).length = a.length + xs.length ∧ ∀ y ∈ xs.foldl (fun (a : List Int) _ => a ++ [(a.length : Int)]) a, 0 ≤ y ∧ y < ((a.length + xs.length : Nat) : Int) := by
    intro xs
    induction xs with
    | nil => intro a h; exact ⟨rfl, by simpa using h⟩
    | cons x xs ih =>
      intro a h
      have := ih (a ++ [(a.length : Int)]) (fun y hy => by
        rw [List.length_append]
        rcases List.mem_append.1 hy with h1 | h1
        · have := h y h1; simp; omega
        · rw [List.mem_singleton] at h1; subst h1; simp; omega)
      simp only [List.foldl_cons]
      refine ⟨by rw [this.1]; simp; omega, fun y hy => ?_⟩
      have h2 := this.2 y hy
      simp only [List.length_append, List.length_cons, List.length_nil] at h2 ⊢
      omega
  have := gen xs [] (by simp)
  simp only [List.length_nil, Nat.zero_add] at this
  exact this
theorem iter_find {α : Type} {f : Int → Option (Int ⊕ Int)} (xs : List α) (p : α → Bool) (h1 : ∀ (i : Nat) x, xs[i]? = some x → f i = some (if p x then .inr (i : Int) else .inl ((i + 1 : Nat) : Int)))
    (h2 : f xs.length = some (.inr (xs.length : Int))) (hl : xs.length < 18446744073709551615) : iter f N0 0 = some ((xs.findIdx p : Nat) : Int) := by
  have key := iter_list (f := f) xs (fun i (_ : Unit) => (i : Int)) (fun i x _ => if p x then .inr (i : Int) else .inl ()) (fun _ => (xs.length : Int)) (fun _ _ => True)
    (fun i a x hx _ => by
      rcases bt (p x) with h | h
      · exact .inr ⟨(i : Int), by simp [h], by rw [h1 i x hx, h]; simp⟩
      · exact .inl ⟨(), by simp [h], trivial, by rw [h1 i x hx, h]; simp⟩) (fun a _ => h2) () trivial hl
  refine key.trans ?_
  have gen : ∀ (ys : List α) (i : Nat), i + ys.length = xs.length → walkL (fun i x (_ : Unit) => if p x then Sum.inr (i : Int) else .inl ()) (fun _ => (xs.length : Int)) i ys () = ((i + ys.findIdx p : Nat) : Int) := by
    intro ys
    induction ys with
    | nil => intro i hi; simp [walkL] at hi ⊢; omega
    | cons y ys ih =>
      intro i hi
      rcases bt (p y) with h | h
      · simp [walkL, h, List.findIdx_cons]
      · simp only [walkL, h, Bool.false_eq_true, if_false, List.findIdx_cons, cond_false]
        rw [ih (i + 1) (by simp at hi; omega)]
        congr 1; omega
  rw [gen xs 0 (by simp)]; simp
theorem p_IndexAt (xs : List Int) (f : Int → Option Bool) (p : Int → Bool) (hf : ∀ x ∈ xs, f x = some (p x)) (hl : xs.length < 2 ^ 62) : M_slices_IndexFunc_Lint_int xs f = some (if xs.findIdx p < xs.length then ((xs.findIdx p : Nat) : Int) else -1) := by
  unfold M_slices_IndexFunc_Lint_int
  have key := iter_list (f := M_slices_IndexFunc_Lint_intL1 xs f) xs (fun i (_ : Unit) => (i : Int)) (fun i x _ => if p x then .inr (.inr (i : Int)) else .inl ()) (fun _ => .inl ()) (fun _ _ => True)
    (fun i a x hx _ => by
      have hlt := (List.getElem?_eq_some_iff.1 hx).1
      have h1 : decide ((i : Int) < xs.length) = true := by simp [hlt]
      have e : M_slices_IndexFunc_Lint_intL1 xs f (i : Int) = some (if p x then .inr (.inr (i : Int)) else .inl ((i + 1 : Nat) : Int)) := by
        simp only [M_slices_IndexFunc_Lint_intL1, h1, cond_true, geti_nat, hx, Option.bind_some, hf x (List.mem_of_getElem? hx)]
        rw [w64_eq (by omega) (by omega)]
        rcases bt (p x) with h | h <;> simp [h]
      rcases bt (p x) with h | h
      · exact .inr ⟨.inr (i : Int), by simp [h], by rw [e, h]; simp⟩
      · exact .inl ⟨(), by simp [h], trivial, by rw [e, h]; simp⟩) (fun a _ => by simp [M_slices_IndexFunc_Lint_intL1]) () trivial (by omega)
  rw [show iter (M_slices_IndexFunc_Lint_intL1 xs f) N0 0 = _ from key]
  have gen : ∀ (ys : List Int) (i : Nat), walkL (fun i x (_ : Unit) => if p x then Sum.inr (Sum.inr (i : Int)) else .inl ()) (fun _ => (Sum.inl () : Unit ⊕ Int)) i ys () = if ys.findIdx p < ys.length then .inr ((i + ys.findIdx p : Nat) : Int) else .inl () := by
    intro ys
    induction ys with
    | nil => intro i; simp [walkL]
    | cons y ys ih =>
      intro i
      rcases bt (p y) with h | h
      · simp [walkL, h, List.findIdx_cons]
      · simp only [walkL, h, Bool.false_eq_true, if_false, List.findIdx_cons, cond_false, List.length_cons]
        rw [ih (i + 1)]
        by_cases e : ys.findIdx p < ys.length
        · rw [if_pos e, if_pos (by omega)]; congr 2; omega
        · rw [if_neg e, if_neg (by omega)]
  rw [gen xs 0]
  by_cases e : xs.findIdx p < xs.length <;> simp [e]
end Vs

namespace Vs
open Go
/-! ### packing into units -/
/-- what the chosen items put into unit b -/
def load : List Int → (Nat → Bool) → (Nat → Nat) → Nat → Int
  | [], _, _, _ => 0
  | x :: xs, S, f, b => (if S 0 = true ∧ f 0 = b then x else 0) + load xs (fun i => S (i + 1)) (fun i => f (i + 1)) b
theorem load_congr : ∀ (xs : List Int) (S T : Nat → Bool) (f g : Nat → Nat) (b : Nat), (∀ i, i < xs.length → S i = T i ∧ (S i = true → f i = g i)) → load xs S f b = load xs T g b
  | [], _, _, _, _, _, _ => rfl
  | x :: xs, S, T, f, g, b, h => by
    obtain ⟨h1, h2⟩ := h 0 (by simp)
    have := load_congr xs (fun i => S (i + 1)) (fun i => T (i + 1)) (fun i => f (i + 1)) (fun i => g (i + 1)) b (fun i hi => h (i + 1) (by simpa using hi))
    simp only [load, this, ← h1]
    cases hS : S 0 with
    | false => simp
    | true => rw [h2 hS]
theorem load_del : ∀ (xs : List Int) (S : Nat → Bool) (f : Nat → Nat) (b i : Nat) (x : Int), xs[i]? = some x → S i = true → load xs S f b = load xs (fun j => S j && j != i) f b + (if f i = b then x else 0)
  | [], _, _, _, _, _, h, _ => by simp at h
  | y :: ys, S, f, b, 0, x, h, hS => by
    have h : y = x := by simpa using h
    subst h
    have e : load ys (fun i => S (i + 1)) (fun i => f (i + 1)) b = load ys (fun j => S (j + 1) && (j + 1 != 0)) (fun i => f (i + 1)) b := load_congr _ _ _ _ _ _ fun i _ => ⟨by simp, fun _ => rfl⟩
    simp only [load, hS, true_and, bne_self_eq_false, Bool.and_false, Bool.false_eq_true, false_and, if_false, ← e]
    omega
  | y :: ys, S, f, b, i + 1, x, h, hS => by
    have h1 := load_del ys (fun j => S (j + 1)) (fun j => f (j + 1)) b i x (by simpa using h) hS
    have e : load ys (fun j => S (j + 1) && j != i) (fun i => f (i + 1)) b = load ys (fun j => S (j + 1) && (j + 1 != i + 1)) (fun i => f (i + 1)) b := load_congr _ _ _ _ _ _ fun j _ => ⟨by simp, fun _ => rfl⟩
    have e0 : (S 0 && (0 != i + 1)) = S 0 := by simp
    simp only [load, h1, e, e0]
    omega
theorem load_nn {xs : List Int} (h : ∀ x ∈ xs, 0 ≤ x) : ∀ (S : Nat → Bool) (f : Nat → Nat) (b : Nat), 0 ≤ load xs S f b := by
  induction xs with
  | nil => intro S f b; simp [load]
  | cons x xs ih =>
    intro S f b
    have h1 := h x (by simp)
    have h2 := ih (fun y hy => h y (by simp [hy])) (fun i => S (i + 1)) (fun i => f (i + 1)) b
    simp only [load]
    split <;> omega
theorem load_zero : ∀ (xs : List Int) (S : Nat → Bool) (f : Nat → Nat) (b : Nat), (∀ i, i < xs.length → S i = true → f i ≠ b) → load xs S f b = 0
  | [], _, _, _, _ => rfl
  | x :: xs, S, f, b, h => by
    have h0 := h 0 (by simp)
    have := load_zero xs (fun i => S (i + 1)) (fun i => f (i + 1)) b (fun i hi => h (i + 1) (by simpa using hi))
    simp only [load, this]
    rw [if_neg (fun e => h0 e.1 e.2)]; rfl
theorem load_swap (σ : Nat → Nat) (hσ : ∀ a b, σ a = b ↔ a = σ b) : ∀ (xs : List Int) (S : Nat → Bool) (f : Nat → Nat) (b : Nat), load xs S (fun i => σ (f i)) b = load xs S f (σ b)
  | [], _, _, _ => rfl
  | x :: xs, S, f, b => by
    have := load_swap σ hσ xs (fun i => S (i + 1)) (fun i => f (i + 1)) b
    simp only [load, this, hσ]
def le2 (a b c d : Int) : Prop := a < c ∨ a = c ∧ b ≤ d
def Fz (xs : List Int) (cap : Int) (S : Nat → Bool) (u : Nat) (r : Int) : Prop := ∃ f : Nat → Nat, (∀ i, i < xs.length → S i = true → f i ≤ u) ∧ load xs S f u = r ∧ ∀ b, b ≤ u → load xs S f b ≤ cap
def Oz (xs : List Int) (cap : Int) (S : Nat → Bool) (u : Nat) (r : Int) : Prop := ∀ (B : List Nat) (c : Nat) (f : Nat → Nat), B.Nodup → c ∈ B → (∀ i, i < xs.length → S i = true → f i ∈ B) → (∀ b ∈ B, load xs S f b ≤ cap) → le2 ((u : Int) + 1) r B.length (load xs S f c)
def stp (cap : Int) (p : Nat × Int) (x : Int) : Nat × Int := if cap < p.2 + x then (p.1 + 1, x) else (p.1, p.2 + x)
theorem Fz_empty {xs : List Int} {cap : Int} (hc : 0 ≤ cap) {S : Nat → Bool} (hS : ∀ i, i < xs.length → S i = false) : Fz xs cap S 0 0 := by
  have h : ∀ b, load xs S (fun _ => 0) b = 0 := fun b => load_zero _ _ _ _ fun i hi h => by rw [hS i hi] at h; cases h
  exact ⟨fun _ => 0, fun i hi _ => Nat.le_refl _, h 0, fun b _ => by rw [h b]; exact hc⟩
theorem Oz_empty {xs : List Int} {cap : Int} (hx : ∀ x ∈ xs, 0 ≤ x) {S : Nat → Bool} : Oz xs cap S 0 0 := fun B c f _ hc _ _ => by
  have h1 := List.length_pos_of_mem hc
  have h2 := load_nn hx S f c
  unfold le2; omega
theorem Fz_step {xs : List Int} {cap : Int} {S : Nat → Bool} {i u : Nat} {r x : Int} (hi : xs[i]? = some x) (hS : S i = true) (hx : 0 ≤ x ∧ x ≤ cap) (h : Fz xs cap (fun j => S j && j != i) u r) : Fz xs cap S (stp cap (u, r) x).1 (stp cap (u, r) x).2 := by
  obtain ⟨f, h1, h2, h3⟩ := h
  have key : ∀ v b, load xs S (fun j => if j = i then v else f j) b = load xs (fun j => S j && j != i) f b + (if v = b then x else 0) := fun v b => by
    rw [load_del xs S _ b i x hi hS, if_pos rfl]
    congr 1
    refine load_congr _ _ _ _ _ _ fun j _ => ⟨rfl, fun hj => ?_⟩
    have : j ≠ i := by simp only [Bool.and_eq_true, bne_iff_ne, ne_eq] at hj; exact hj.2
    simp [this]
  have hle : ∀ v, u ≤ v → ∀ j, j < xs.length → S j = true → (if j = i then v else f j) ≤ v := fun v hv j hj hjS => by
    by_cases e : j = i
    · simp [e]
    · rw [if_neg e]; exact Nat.le_trans (h1 j hj (by simp [hjS, e])) hv
  unfold stp
  by_cases hc : cap < r + x
  · simp only [hc, if_true]
    have h0 : load xs (fun j => S j && j != i) f (u + 1) = 0 := load_zero _ _ _ _ fun j hj hjS => by have := h1 j hj hjS; omega
    refine ⟨fun j => if j = i then u + 1 else f j, hle (u + 1) (by omega), by rw [key, h0, if_pos rfl]; omega, fun b hb => ?_⟩
    rw [key]
    by_cases e : u + 1 = b
    · subst e; rw [h0, if_pos rfl]; omega
    · rw [if_neg e]; have := h3 b (by omega); omega
  · simp only [hc, if_false]
    refine ⟨fun j => if j = i then u else f j, hle u (Nat.le_refl _), by rw [key, h2, if_pos rfl], fun b hb => ?_⟩
    rw [key]
    by_cases e : u = b
    · subst e; rw [h2, if_pos rfl]; omega
    · rw [if_neg e]; have := h3 b hb; omega
theorem Fz_cap {xs : List Int} {cap : Int} {S : Nat → Bool} {u : Nat} {r : Int} (h : Fz xs cap S u r) : r ≤ cap := by
  obtain ⟨f, _, h2, h3⟩ := h
  have := h3 u (Nat.le_refl _); omega
theorem Oz_step {xs : List Int} {cap : Int} (hx : ∀ x ∈ xs, 0 ≤ x) {S : Nat → Bool} (cd : Nat → Nat × Int) (u : Nat) (r : Int)
    (h : ∀ i x, xs[i]? = some x → S i = true → Oz xs cap (fun j => S j && j != i) (cd i).1 (cd i).2 ∧ le2 u r (stp cap (cd i) x).1 (stp cap (cd i) x).2) (hne : ∃ i, i < xs.length ∧ S i = true) : Oz xs cap S u r := by
  have A : ∀ (B : List Nat) (c : Nat) (f : Nat → Nat), B.Nodup → c ∈ B → (∀ i, i < xs.length → S i = true → f i ∈ B) → (∀ b ∈ B, load xs S f b ≤ cap) → (∃ i, i < xs.length ∧ S i = true ∧ f i = c) → le2 ((u : Int) + 1) r B.length (load xs S f c) := by
    intro B c f hB hc hf hl hi
    obtain ⟨i, i1, i2, i3⟩ := hi
    have hg := List.getElem?_eq_getElem i1
    have hx0 := hx _ (List.getElem_mem i1)
    generalize xs[i] = x at hg hx0
    obtain ⟨g1, g2⟩ := h i x hg i2
    have hd := fun b => load_del xs S f b i x hg i2
    have hn := load_nn hx (fun j => S j && j != i) f c
    have hcl := hl c hc
    have hdc := hd c
    rw [if_pos i3] at hdc
    have g3 := g1 B c f hB hc (fun j hj hjS => hf j hj (by simp only [Bool.and_eq_true] at hjS; exact hjS.1)) (fun b hb => by
      have := hl b hb; have := hd b
      split at this <;> omega)
    unfold le2 stp at *
    by_cases hc2 : cap < (cd i).2 + x
    · simp only [hc2, if_true] at g2; omega
    · simp only [hc2, if_false] at g2; omega
  intro B c f hB hc hf hl
  by_cases hi : ∃ i, i < xs.length ∧ S i = true ∧ f i = c
  · exact A B c f hB hc hf hl hi
  · obtain ⟨i, i1, i2⟩ := hne
    have hno : ∀ j, j < xs.length → S j = true → f j ≠ c := fun j j1 j2 e => hi ⟨j, j1, j2, e⟩
    have hl2 := List.length_erase_of_mem hc
    have hpos := List.length_pos_of_mem hc
    have := A (B.erase c) (f i) f (hB.erase c) ((List.mem_erase_of_ne (hno i i1 i2)).2 (hf i i1 i2)) (fun j j1 j2 => (List.mem_erase_of_ne (hno j j1 j2)).2 (hf j j1 j2)) (fun b hb => hl b (List.mem_of_mem_erase hb)) ⟨i, i1, i2, rfl⟩
    unfold le2 at this ⊢
    omega
/-! ### the program's search -/
def allS : Nat → Bool := fun _ => true
def Pk (xs : List Int) (k : Nat) (F : Nat → Int) : Prop := ∃ f : Nat → Nat, (∀ i, i < xs.length → f i < k) ∧ ∀ b, b < k → load xs allS f b ≤ F b
def consF (a : Nat) (f : Nat → Nat) : Nat → Nat
  | 0 => a
  | i + 1 => f i
theorem load_cons (x : Int) (xs : List Int) (a : Nat) (f : Nat → Nat) (b : Nat) : load (x :: xs) allS (consF a f) b = (if a = b then x else 0) + load xs allS f b := by
  simp only [load, allS, consF, true_and]; rfl
theorem load_all (x : Int) (xs : List Int) (f : Nat → Nat) (b : Nat) : load (x :: xs) allS f b = (if f 0 = b then x else 0) + load xs allS (fun i => f (i + 1)) b := by
  simp only [load, allS, true_and]; rfl
theorem Pk_perm {xs ys : List Int} (h : xs.Perm ys) : ∀ {k : Nat} {F : Nat → Int}, Pk xs k F → Pk ys k F := by
  induction h with
  | nil => intro k F h; exact h
  | cons x _ ih =>
    intro k F ⟨f, h1, h2⟩
    obtain ⟨g, g1, g2⟩ := ih (k := k) (F := fun b => F b - (if f 0 = b then x else 0)) ⟨fun i => f (i + 1), fun i hi => h1 (i + 1) (by simpa using hi), fun b hb => by have := h2 b hb; rw [load_all] at this; simp only; omega⟩
    refine ⟨consF (f 0) g, fun i hi => ?_, fun b hb => ?_⟩
    · cases i with
      | zero => exact h1 0 (by simp)
      | succ i => exact g1 i (by simpa using hi)
    · have := g2 b hb
      rw [load_cons]; simp only at this; omega
  | swap x y l =>
    intro k F ⟨f, h1, h2⟩
    refine ⟨consF (f 1) (consF (f 0) fun i => f (i + 2)), fun i hi => ?_, fun b hb => ?_⟩
    · match i with
      | 0 => exact h1 1 (by simp)
      | 1 => exact h1 0 (by simp)
      | i + 2 => exact h1 (i + 2) (by simpa using hi)
    · have := h2 b hb
      rw [load_all, load_all] at this
      rw [load_cons, load_cons]
      simp only [Nat.add_assoc, Nat.reduceAdd, Nat.zero_add] at this ⊢
      omega
  | trans _ _ ih1 ih2 => intro k F h; exact ih2 (ih1 h)
def fitsP : List Int → List Int → Bool
  | [], _ => true
  | x :: xs, free => anyI (fun u room => !(decide (room < x) || (free.take u).contains room) && fitsP xs (free.set u (room - x))) free
theorem fits_iff : ∀ (xs free : List Int), (∀ x ∈ xs, 0 ≤ x) → (∀ r ∈ free, 0 ≤ r) → (fitsP xs free = true ↔ Pk xs free.length fun b => free.getD b 0)
  | [], free, _, hr => by
    simp only [fitsP, true_iff]
    refine ⟨fun _ => 0, fun i hi => by simp at hi, fun b hb => ?_⟩
    have : free.getD b 0 = free[b] := by rw [List.getD_eq_getElem?_getD, List.getElem?_eq_getElem hb]; rfl
    simp only [this, load]
    exact hr _ (List.getElem_mem hb)
  | x :: xs, free, hx, hr => by
    have hx0 := hx x (by simp)
    have hxs : ∀ y ∈ xs, 0 ≤ y := fun y hy => hx y (by simp [hy])
    have hset : ∀ u room, free[u]? = some room → x ≤ room → ∀ r ∈ free.set u (room - x), 0 ≤ r := fun u room h1 h2 r h => by
      rcases List.mem_or_eq_of_mem_set h with h | h
      · exact hr r h
      · omega
    have gd : ∀ u room, free[u]? = some room → free.getD u 0 = room := fun u room h => by rw [List.getD_eq_getElem?_getD, h]; rfl
    have gs : ∀ u v b, b < free.length → (free.set u v).getD b 0 = if u = b then v else free.getD b 0 := fun u v b hb => by
      rw [List.getD_eq_getElem?_getD, List.getElem?_set]
      by_cases e : u = b
      · subst e; simp [hb]
      · simp [e, List.getD_eq_getElem?_getD]
    rw [fitsP, anyI_iff]
    constructor
    · rintro ⟨u, room, h1, h2⟩
      simp only [Bool.and_eq_true, Bool.not_eq_true', Bool.or_eq_false_iff, decide_eq_false_iff_not] at h2
      obtain ⟨⟨h3, _⟩, h4⟩ := h2
      have hu := (List.getElem?_eq_some_iff.1 h1).1
      obtain ⟨f, f1, f2⟩ := (fits_iff xs (free.set u (room - x)) hxs (hset u room h1 (by omega))).1 h4
      rw [List.length_set] at f1 f2
      refine ⟨consF u f, fun i hi => ?_, fun b hb => ?_⟩
      · cases i with
        | zero => exact hu
        | succ i => exact f1 i (by simpa using hi)
      · have := f2 b hb
        simp only at this ⊢
        rw [gs _ _ _ hb] at this
        rw [load_cons]
        by_cases e : u = b
        · subst e; rw [if_pos rfl] at this ⊢; rw [gd _ _ h1]; omega
        · rw [if_neg e] at this ⊢; omega
    · rintro ⟨f, f1, f2⟩
      have hu0 := f1 0 (by simp)
      have hg0 := List.getElem?_eq_getElem hu0
      generalize free[f 0] = R at hg0
      obtain ⟨u, hu, hmin⟩ := least_of (p := fun u => free[u]? = some R) (f 0) hg0
      have hul := (List.getElem?_eq_some_iff.1 hu).1
      have hn := fun b => load_nn hxs allS (fun i => f (i + 1)) b
      have hR : x ≤ R := by
        have := f2 (f 0) hu0
        simp only at this
        rw [load_all, if_pos rfl, gd _ _ hg0] at this
        have := hn (f 0); omega
      refine ⟨u, R, hu, ?_⟩
      simp only [Bool.and_eq_true, Bool.not_eq_true', Bool.or_eq_false_iff, decide_eq_false_iff_not]
      refine ⟨⟨by omega, ?_⟩, ?_⟩
      · rw [Bool.eq_false_iff]
        intro hc
        rw [List.contains_iff_mem] at hc
        obtain ⟨k, hk, e⟩ := List.getElem_of_mem hc
        rw [List.length_take] at hk
        rw [List.getElem_take] at e
        exact hmin k (by omega) (by rw [List.getElem?_eq_getElem (by omega), e])
      · rw [fits_iff xs (free.set u (R - x)) hxs (hset u R hu hR), List.length_set]
        let σ : Nat → Nat := fun a => if a = f 0 then u else if a = u then f 0 else a
        have hσ : ∀ a b, σ a = b ↔ a = σ b := fun a b => by
          simp only [σ]
          constructor <;> intro h <;> split at h <;> (try split at h) <;> split <;> (try split) <;> omega
        refine ⟨fun i => σ (f (i + 1)), fun i hi => ?_, fun b hb => ?_⟩
        · have := f1 (i + 1) (by simpa using hi)
          simp only [σ]
          split
          · exact hul
          · split
            · exact hu0
            · exact this
        · simp only
          rw [load_swap σ hσ xs allS (fun i => f (i + 1)) b, gs _ _ _ hb]
          by_cases e : u = b
          · rw [if_pos e]
            have h3 : σ b = f 0 := by
              simp only [σ]
              by_cases e3 : b = f 0
              · rw [if_pos e3]; omega
              · rw [if_neg e3, if_pos e.symm]
            rw [h3]
            have := f2 (f 0) hu0
            simp only at this
            rw [load_all, if_pos rfl, gd _ _ hg0] at this; omega
          · rw [if_neg e]
            by_cases e2 : b = f 0
            · have h3 : σ b = u := by simp only [σ]; rw [if_pos e2]
              rw [h3]
              have := f2 u hul
              simp only at this
              rw [load_all, if_neg (by omega), gd _ _ hu] at this
              rw [e2, gd _ _ hg0]; omega
            · have h3 : σ b = b := by simp only [σ]; rw [if_neg e2, if_neg (by omega)]
              rw [h3]
              have := f2 b hb
              simp only at this
              rw [load_all, if_neg (by omega)] at this; omega
end Vs

namespace Vs
open Go
theorem iter_anyS {α S B : Type} {f : S → Option (S ⊕ B)} (xs : List α) (p : Nat → α → Bool) (st : Nat → S) (bad ok : B)
    (h1 : ∀ (i : Nat) x, xs[i]? = some x → f (st i) = some (if p i x then .inr bad else .inl (st (i + 1))))
    (h2 : f (st xs.length) = some (.inr ok)) (hl : xs.length < 18446744073709551615) : iter f N0 (st 0) = some (if anyI p xs then bad else ok) := by
  rw [iter_list (f := f) xs (fun i (_ : Unit) => st i) (fun i x _ => if p i x then .inr bad else .inl ()) (fun _ => ok) (fun _ _ => True)
    (fun i a x hx _ => by
      cases h : p i x
      · exact .inl ⟨(), by simp, trivial, by rw [h1 i x hx, h]; simp⟩
      · exact .inr ⟨bad, by simp, by rw [h1 i x hx, h]; simp⟩) (fun a _ => h2) () trivial hl]
  have gen : ∀ (ys : List α) (i : Nat), walkL (fun i x (_ : Unit) => if p i x then .inr bad else .inl ()) (fun _ => ok) i ys () = if (ys.zipIdx i).any (fun q => p q.2 q.1) then bad else ok := by
    intro ys
    induction ys with
    | nil => intro i; rfl
    | cons y ys ih =>
      intro i
      simp only [walkL, List.zipIdx_cons, List.any_cons]
      by_cases h : p i y = true
      · simp [h]
      · simp only [Bool.not_eq_true] at h
        simp only [h, Bool.false_eq_true, if_false, Bool.false_or]; exact ih (i + 1)
  rw [gen]; rfl
theorem p_Contains_i (xs : List Int) (v : Int) (hl : xs.length ≤ 1048576) : M_slices_Contains_Lint_int xs v = some (xs.contains v) := by
  unfold M_slices_Contains_Lint_int M_slices_Index_Lint_int
  rw [iter_findI (f := M_slices_Index_Lint_intL1 xs v) xs (fun _ x => x == v) (fun i _ => (i : Int)) () (fun i x hx _ => by
    have hlt := (List.getElem?_eq_some_iff.1 hx).1
    have h1 : decide ((i : Int) < xs.length) = true := by simp [hlt]
    simp only [M_slices_Index_Lint_intL1, h1, cond_true, geti_nat, hx, Option.bind_some]
    rw [w64_eq (by omega) (by omega), show (v == x) = (x == v) from Bool.beq_comm ..]
    rcases bt (x == v) with e | e <;> simp only [e] <;> rfl) (by simp [M_slices_Index_Lint_intL1]) (by omega)]
  have e : xs.contains v = xs.any (fun x => x == v) := by
    rw [List.contains_eq_any_beq]; congr 1; funext x; exact Bool.beq_comm ..
  rw [e, ← anyI_any]
  cases e : findI (fun _ x => x == v) xs with
  | none =>
    have h : anyI (fun _ x => x == v) xs = false := anyI_false.2 (findI_none.1 e)
    rw [h]; rfl
  | some q =>
    obtain ⟨i, x⟩ := q
    obtain ⟨h1, h2, _⟩ := findI_some.1 e
    have h : anyI (fun _ x => x == v) xs = true := anyI_iff.2 ⟨i, x, h1, h2⟩
    rw [h]; simp
/-! ### slices.SortFunc of at most twelve numbers gives the same numbers -/
def gz (l : List Int) (p : Nat) : Int := (l[p]?).getD 0
theorem gz_at {l : List Int} {p : Nat} (h : p < l.length) : l[p]? = some (gz l p) := by
  unfold gz; rw [List.getElem?_eq_getElem h]; rfl
theorem perm_swap {l : List Int} {i j : Nat} (hi : i < l.length) (hj : j < l.length) : ((l.set i (gz l j)).set j (gz l i)).Perm l := by
  by_cases e : i = j
  · subst e
    have : (l.set i (gz l i)).set i (gz l i) = l := by
      apply List.ext_getElem?
      intro k
      rw [List.getElem?_set, List.getElem?_set]
      by_cases h : i = k
      · subst h; simp [hi]; unfold gz; rw [List.getElem?_eq_getElem hi]; rfl
      · simp [h]
    rw [this]
  · have g1 : gz l j = l[j] := by unfold gz; rw [List.getElem?_eq_getElem hj]; rfl
    have g2 : gz l i = l[i] := by unfold gz; rw [List.getElem?_eq_getElem hi]; rfl
    rw [g1, g2]
    exact List.set_set_perm hi hj
theorem p_c1 (a b : Int) : ∃ r, M_impl_FewestUnits_c1 a b = some r := by
  unfold M_impl_FewestUnits_c1 M_cmp_Compare_int
  simp only [M_cmp_isNaN_int]
  by_cases h : b < a
  · simp [h]
  · by_cases h2 : a < b <;> simp [h, h2]
theorem p_sortL2 (n i : Nat) (l0 : List Int) (hl : l0.length = n) (hn : n ≤ 1048576) (hi : i < n) :
    ∃ l, iter (M_slices_insertionSortCmpFunc_intM2L2 0 n 0) N0 ((i : Int), l0) = some l ∧ l.Perm l0 := by
  refine iter_inv (f := M_slices_insertionSortCmpFunc_intM2L2 0 n 0) (fun s => ∃ j : Nat, s.1 = j ∧ j ≤ i ∧ s.2.length = n ∧ s.2.Perm l0) (fun s => s.1.toNat) (fun l => l.Perm l0) (fun s hI => ?_) N0 ((i : Int), l0)
    ⟨i, rfl, Nat.le_refl _, hl, List.Perm.refl _⟩ (N0_lt (by simp; omega))
  obtain ⟨j', l⟩ := s
  obtain ⟨j, rfl, hj, hll, hp⟩ := hI
  simp only at hll hp
  by_cases h0 : 0 < j
  · have e1 : decide ((0 : Int) < (j : Int)) = true := decide_eq_true (by omega)
    have ew : IntKind.wrap .i64 ((j : Int) - 1) = ((j - 1 : Nat) : Int) := by rw [w64_eq (by omega) (by omega)]; omega
    have g1 : l[0 + j]? = some (gz l j) := by rw [Nat.zero_add]; exact gz_at (by omega)
    have g2 : l[0 + (j - 1)]? = some (gz l (j - 1)) := by rw [Nat.zero_add]; exact gz_at (by omega)
    obtain ⟨r, hr⟩ := p_c1 (gz l j) (gz l (j - 1))
    have hgg : grd (0 ≤ (j : Int) ∧ (j : Int) < (n : Int)) = some () := grd_t (by omega)
    have hgg2 : grd (0 ≤ ((j - 1 : Nat) : Int) ∧ ((j - 1 : Nat) : Int) < (n : Int)) = some () := grd_t (by omega)
    by_cases hlt : r < 0
    · left
      have e2 : decide (r < 0) = true := decide_eq_true hlt
      have g3 : (l.set (0 + j) (gz l (j - 1)))[0 + (j - 1)]? = some (gz l (j - 1)) := by
        rw [List.getElem?_set, if_neg (by omega)]; exact g2
      refine ⟨(((j - 1 : Nat) : Int), (l.set j (gz l (j - 1))).set (j - 1) (gz l j)), ?_, ⟨j - 1, rfl, by omega, by simp [hll], (perm_swap (by omega) (by omega)).trans hp⟩, ?_⟩
      · simp only [M_slices_insertionSortCmpFunc_intM2L2, e1, cond_true, ew, hgg, hgg2, Int.toNat_natCast, g1, g2, hr, e2, Option.bind_some, bnd, g3]
        simp only [Nat.zero_add]
      · simp only [Int.toNat_natCast]; omega
    · right
      have e2 : decide (r < 0) = false := decide_eq_false hlt
      exact ⟨l, by simp only [M_slices_insertionSortCmpFunc_intM2L2, e1, cond_true, ew, hgg, hgg2, Int.toNat_natCast, g1, g2, hr, e2, Option.bind_some, cond_false], hp⟩
  · right
    have e1 : decide ((0 : Int) < (j : Int)) = false := decide_eq_false (by omega)
    exact ⟨l, by simp only [M_slices_insertionSortCmpFunc_intM2L2, e1, cond_false, Option.bind_some], hp⟩
theorem p_sortC (n : Nat) (xs : List Int) (hl : xs.length = n) (hn : n ≤ 1048576) : ∃ l, M_slices_insertionSortCmpFunc_intM2 0 n 0 (n : Int) xs = some l ∧ l.Perm xs := by
  unfold M_slices_insertionSortCmpFunc_intM2
  obtain ⟨l, h1, h2⟩ := iter_inv (f := M_slices_insertionSortCmpFunc_intM2L1 0 n 0 (n : Int)) (fun s => ∃ i : Nat, s.1 = i ∧ 1 ≤ i ∧ i ≤ n + 1 ∧ s.2.length = n ∧ s.2.Perm xs) (fun s => n + 1 - s.1.toNat) (fun l => l.Perm xs) (fun s hI => by
    obtain ⟨i', l⟩ := s
    obtain ⟨i, rfl, h0, hi, hll, hp⟩ := hI
    simp only at hll hp
    by_cases h : i < n
    · left
      have e1 : decide ((i : Int) < (n : Int)) = true := decide_eq_true (by omega)
      obtain ⟨l', g1, g2⟩ := p_sortL2 n i l hll hn h
      refine ⟨(((i + 1 : Nat) : Int), l'), ?_, ⟨i + 1, rfl, by omega, by omega, by rw [g2.length_eq]; exact hll, g2.trans hp⟩, by simp only [Int.toNat_natCast]; omega⟩
      simp only [M_slices_insertionSortCmpFunc_intM2L1, e1, cond_true, g1, Option.bind_some]
      rw [w64_eq (by omega) (by omega)]; rfl
    · right
      have e1 : decide ((i : Int) < (n : Int)) = false := decide_eq_false (by omega)
      exact ⟨l, by simp only [M_slices_insertionSortCmpFunc_intM2L1, e1, cond_false], hp⟩) N0 (((1 : Nat) : Int), xs) ⟨1, rfl, by omega, by omega, hl, List.Perm.refl _⟩ (N0_lt (by simp; omega))
  refine ⟨l, ?_, h2⟩
  have e : IntKind.wrap .i64 ((0 : Int) + 1) = ((1 : Nat) : Int) := by rw [w64_eq (by omega) (by omega)]; rfl
  rw [e, h1]; rfl
theorem bitsLen12 : ∀ n : Fin 13, (M_math_bits_Len (IntKind.wrap .u64 (n.val : Int))).isSome = true := by decide +kernel
theorem p_SortC (xs : List Int) (h : xs.length ≤ 12) : ∃ l, M_slices_SortFunc_Lint_intM1 xs = some l ∧ l.Perm xs := by
  obtain ⟨l, h1, h2⟩ := p_sortC xs.length xs rfl (by omega)
  refine ⟨l, ?_, h2⟩
  have hb := bitsLen12 ⟨xs.length, by omega⟩
  simp only at hb
  unfold M_slices_SortFunc_Lint_intM1
  cases hx : M_math_bits_Len (IntKind.wrap .u64 (xs.length : Int)) with
  | none => rw [hx] at hb; cases hb
  | some r =>
    simp only [Option.bind_some]
    unfold M_slices_pdqsortCmpFunc_intM1
    have hN : N0 = (N0 - 1) + 1 := by unfold N0; omega
    rw [hN, iter]
    have e1 : decide (IntKind.wrap .i64 ((xs.length : Int) - 0) ≤ 12) = true := by rw [w64_eq (by omega) (by omega)]; exact decide_eq_true (by omega)
    simp only [M_slices_pdqsortCmpFunc_intM1L1, e1, cond_true, h1, Option.bind_some]
/-! ### slices.Repeat of one number -/
theorem mul12 : ∀ n : Fin 13, M_math_bits_Mul (IntKind.wrap .u64 ((1 : Nat) : Int)) (IntKind.wrap .u64 (n.val : Int)) = some (0, (n.val : Int)) := by decide +kernel
theorem p_Repeat (c : Int) (k : Nat) (hk : k ≤ 12) : M_slices_Repeat_Lint_int [c] (k : Int) = some (List.replicate k c) := by
  unfold M_slices_Repeat_Lint_int
  have hm := mul12 ⟨k, by omega⟩
  simp only at hm
  rw [decide_eq_false (by omega : ¬ (k : Int) < 0), cond_false]
  simp only [List.length_cons, List.length_nil, Nat.zero_add]
  rw [hm]
  simp only [Option.bind_some]
  rw [w64_eq (n := (k : Int)) (by omega) (by omega), grd_t (by omega)]
  simp only [Option.bind_some, bnd, Int.toNat_natCast]
  rw [show decide ((0 : Int) < 0) = false from rfl, cond_false, decide_eq_false (by omega : ¬ (9223372036854775807 : Int) < (k : Int))]
  simp only [Option.bind_some, cond_false]
  have hov : over (List.replicate k (0 : Int)) 0 ([c].take (min 1 k)) = List.replicate (min 1 k) c ++ List.replicate (k - min 1 k) 0 := by
    cases k with
    | zero => rfl
    | succ k =>
      have : min 1 (k + 1) = 1 := by omega
      rw [this]
      unfold over
      simp [List.replicate_succ]
  rw [hov]
  obtain ⟨o, o1, o2⟩ := iter_inv (f := M_slices_Repeat_Lint_intL1) (fun s => ∃ n : Nat, s.1 = n ∧ n ≤ k ∧ (1 ≤ k → 1 ≤ n) ∧ s.2 = List.replicate n c ++ List.replicate (k - n) 0) (fun s => k - s.1.toNat) (fun l => l = List.replicate k c) (fun s hI => by
    obtain ⟨n', l⟩ := s
    obtain ⟨n, rfl, h1, h2, h3⟩ := hI
    simp only at h3
    subst h3
    have hlen : (List.replicate n c ++ List.replicate (k - n) (0 : Int)).length = k := by simp; omega
    by_cases h : n < k
    · left
      have hsub : subT (List.replicate n c ++ List.replicate (k - n) (0 : Int)) 0 n = List.replicate n c := by
        rw [subT_drop, List.drop_zero]; simp
      refine ⟨_, by
        simp only [M_slices_Repeat_Lint_intL1, hlen, Int.toNat_natCast]
        rw [decide_eq_true (by omega), cond_true, grd_t ⟨by omega, trivial, h1, trivial⟩, grd_t ⟨trivial, by omega, trivial, h1⟩]
        simp only [Option.bind_some, bnd, hsub, List.length_replicate]
        rw [w64_eq (by omega) (by omega)], ⟨n + min n (k - n), by first | rfl | (simp only; omega), by omega, by omega, ?_⟩, by simp only; omega⟩
      simp only
      have hq : min n (k - n) ≤ n ∧ min n (k - n) ≤ k - n := by omega
      generalize min n (k - n) = q at hq
      unfold over
      have hl2 : (List.take q (List.replicate n c)).length = q := by rw [List.length_take, List.length_replicate]; omega
      rw [hlen, hl2, if_pos (by omega), List.take_left' (by simp)]
      rw [List.take_replicate, List.drop_append, List.length_replicate]
      have d1 : List.drop (n + q) (List.replicate n c) = [] := by simp
      have e1 : min q n = q := by omega
      have e2 : k - n - (n + q - n) = k - (n + q) := by omega
      rw [d1, List.nil_append, List.drop_replicate, e1, e2, List.replicate_append_replicate]
    · right
      have hn : n = k := by omega
      subst hn
      refine ⟨List.replicate n c, ?_, rfl⟩
      simp only [M_slices_Repeat_Lint_intL1, hlen]
      rw [decide_eq_false (by omega), cond_false]; simp) N0 (((min 1 k : Nat) : Int), List.replicate (min 1 k) c ++ List.replicate (k - min 1 k) 0) ⟨min 1 k, rfl, by omega, by omega, rfl⟩ (N0_lt (by simp; omega))
  rw [o1, o2]; rfl
/-! ### the search -/
theorem anyI_cg {α : Type} {p q : Nat → α → Bool} {xs : List α} (h : ∀ i x, xs[i]? = some x → p i x = q i x) : anyI p xs = anyI q xs := anyI_congr fun i x hx _ => h i x hx
theorem set_back {l : List Int} {i : Nat} {x v : Int} (h : l[i]? = some x) : (l.set i v).set i x = l := by
  apply List.ext_getElem?
  intro k
  rw [List.getElem?_set, List.getElem?_set, List.length_set]
  by_cases e : i = k
  · subst e
    obtain ⟨h1, h2⟩ := List.getElem?_eq_some_iff.1 h
    simp [h1, h2]
  · simp [e]
theorem p_fits3 (ae : List Int) (hx : ∀ x ∈ ae, 0 ≤ x ∧ x ≤ 10000) (hal : ae.length ≤ 12) : ∀ (m aa n : Nat) (af : List Int), m = ae.length - aa → aa ≤ ae.length → m < n → af.length ≤ 12 → (∀ r ∈ af, 0 ≤ r ∧ r ≤ 10000) →
    M_impl_fitsM3 n aa m 0 af.length ae af = some (fitsP (ae.drop aa) af, ae, af) := by
  intro m
  induction m with
  | zero =>
    intro aa n af hm haa hn hfl hr
    have hd : ae.drop aa = [] := by rw [List.drop_eq_nil_iff]; omega
    cases n with
    | zero => omega
    | succ n => simp only [M_impl_fitsM3, M_impl_fitsM3_B, hd, fitsP]; rfl
  | succ m ih =>
    intro aa n af hm haa hn hfl hr
    cases n with
    | zero => omega
    | succ n =>
      have haa2 : aa < ae.length := by omega
      have hd : ae.drop aa = ae[aa] :: ae.drop (aa + 1) := List.drop_eq_getElem_cons haa2
      have hx0 := hx _ (List.getElem_mem haa2)
      have hg := List.getElem?_eq_getElem haa2
      generalize ae[aa] = x at hd hx0 hg
      have hN : ((m + 1 : Nat) : Int) = (m : Int) + 1 := by omega
      simp only [M_impl_fitsM3, M_impl_fitsM3_B]
      have hb : ((((m + 1 : Nat) : Int)) == 0) = false := by rw [beq_eq_false_iff_ne]; omega
      rw [hb, cond_false]
      have key := iter_anyS (f := M_impl_fitsM3L1 aa (m + 1) 0 af.length (M_impl_fitsM3 n)) af (fun u room => !(decide (room < x) || (af.take u).contains room) && fitsP (ae.drop (aa + 1)) (af.set u (room - x))) (fun i => ((i : Int), ae, af)) (.inr (true, ae, af)) (.inl (ae, af)) (fun i room hi => by
        have hlt := (List.getElem?_eq_some_iff.1 hi).1
        have hr0 := hr room (List.mem_of_getElem? hi)
        have e1 : decide ((i : Int) < (af.length : Int)) = true := decide_eq_true (by omega)
        have hs : subT af 0 i = af.take i := by rw [subT_drop, List.drop_zero]
        simp only [M_impl_fitsM3L1, e1, cond_true, Int.toNat_natCast, Nat.zero_add, hi]
        rw [grd_t (by omega), grd_t (by omega), grd_t ⟨trivial, by omega, trivial, by omega⟩]
        simp only [Option.bind_some, Int.toNat_zero, Nat.add_zero, hg, bnd, hs, p_Contains_i (af.take i) room (by rw [List.length_take]; omega)]
        rw [w64_eq (n := (i : Int) + 1) (by omega) (by omega)]
        by_cases c1 : room < x
        · rw [decide_eq_true c1]; simp
        · rw [decide_eq_false c1]
          simp only [cond_false, Option.bind_some, Bool.false_or]
          rcases bt ((af.take i).contains room) with c2 | c2
          · rw [c2]; simp
          · rw [c2]
            simp only [cond_false, Bool.not_false, Bool.true_and]
            rw [w64_eq (n := room - x) (by omega) (by omega), grd_t ⟨by omega, trivial, by simp, trivial⟩]
            simp only [Option.bind_some]
            have h1 : Int.toNat 1 = 1 := rfl
            have := ih (aa + 1) n (af.set i (room - x)) (by omega) (by omega) (by omega) (by simpa using hfl) (fun r hr2 => by
              rcases List.mem_or_eq_of_mem_set hr2 with h | h
              · exact hr r h
              · omega)
            rw [List.length_set] at this
            rw [h1, show m + 1 - 1 = m from rfl, this]
            simp only [Option.bind_some, List.getElem?_set_self hlt]
            rw [set_back hi]
            rcases bt (fitsP (ae.drop (aa + 1)) (af.set i (room - x))) with e | e
            · simp [e]
            · simp [e]) (by
        simp only [M_impl_fitsM3L1]
        rw [decide_eq_false (by omega), cond_false]) (by omega)
      have e0 : ((0 : Nat) : Int) = 0 := rfl
      simp only [e0] at key
      rw [key, hd]
      simp only [fitsP, Option.bind_some]
      cases anyI (fun u room => !(decide (room < x) || (af.take u).contains room) && fitsP (ae.drop (aa + 1)) (af.set u (room - x))) af <;> rfl
theorem p_fits1 (ae : List Int) (hx : ∀ x ∈ ae, 0 ≤ x ∧ x ≤ 10000) (hal : ae.length ≤ 12) (af : List Int) (hfl : af.length ≤ 12) (hr : ∀ r ∈ af, 0 ≤ r ∧ r ≤ 10000) :
    M_impl_fitsM1 N0 0 ae.length ae af = some (fitsP ae af, ae, af) := by
  have hN : N0 = (N0 - 1) + 1 := by unfold N0; omega
  rw [hN]
  simp only [M_impl_fitsM1, M_impl_fitsM1_B]
  cases ae with
  | nil => rfl
  | cons x xs =>
    have hx0 := hx x (by simp)
    have hb : ((((x :: xs).length : Int)) == 0) = false := by rw [beq_eq_false_iff_ne, List.length_cons]; omega
    rw [hb, cond_false]
    have key := iter_anyS (f := M_impl_fitsM1L1 0 (x :: xs).length af) af (fun u room => !(decide (room < x) || (af.take u).contains room) && fitsP xs (af.set u (room - x))) (fun i => (af.length, af.length, (i : Int), x :: xs, af)) (.inr (true, x :: xs, af)) (.inl (x :: xs, af)) (fun i room hi => by
      have hlt := (List.getElem?_eq_some_iff.1 hi).1
      have hr0 := hr room (List.mem_of_getElem? hi)
      have e1 : decide ((i : Int) < (af.length : Int)) = true := decide_eq_true (by omega)
      have hs : subT af 0 i = af.take i := by rw [subT_drop, List.drop_zero]
      have hpos : (0 : Int) < ((x :: xs).length : Int) := by rw [List.length_cons]; omega
      simp only [M_impl_fitsM1L1, e1, cond_true, Int.toNat_natCast, hi]
      rw [grd_t (by omega), grd_t ⟨by omega, hpos⟩, grd_t ⟨trivial, by omega, trivial, by omega⟩]
      simp only [Option.bind_some, Int.toNat_zero, Nat.add_zero, bnd, hs, List.getElem?_cons_zero, p_Contains_i (af.take i) room (by rw [List.length_take]; omega)]
      rw [w64_eq (n := (i : Int) + 1) (by omega) (by omega)]
      by_cases c1 : room < x
      · rw [decide_eq_true c1]; simp
      · rw [decide_eq_false c1]
        simp only [cond_false, Option.bind_some, Bool.false_or]
        rcases bt ((af.take i).contains room) with c2 | c2
        · rw [c2]; simp
        · rw [c2]
          simp only [cond_false, Bool.not_false, Bool.true_and]
          rw [w64_eq (n := room - x) (by omega) (by omega), grd_t ⟨by omega, trivial, by simp, trivial⟩]
          simp only [Option.bind_some]
          have h1 : Int.toNat 1 = 1 := rfl
          have := p_fits3 (x :: xs) hx hal xs.length 1 N0 (af.set i (room - x)) (by simp) (by simp) (N0_lt (by simp at hal; omega)) (by simpa using hfl) (fun r hr2 => by
            rcases List.mem_or_eq_of_mem_set hr2 with h | h
            · exact hr r h
            · omega)
          rw [List.length_set] at this
          rw [h1, show (x :: xs).length - 1 = xs.length from rfl, show 0 + 1 = 1 from rfl, this]
          simp only [Option.bind_some, List.getElem?_set_self hlt, List.drop_succ_cons, List.drop_zero]
          rw [set_back hi]
          rcases bt (fitsP xs (af.set i (room - x))) with e | e
          · simp [e]
          · simp [e]) (by
      simp only [M_impl_fitsM1L1]
      rw [decide_eq_false (by omega), cond_false]) (by omega)
    have e0 : ((0 : Nat) : Int) = 0 := rfl
    simp only [e0] at key
    rw [key]
    simp only [fitsP, Option.bind_some]
    cases anyI (fun u room => !(decide (room < x) || (af.take u).contains room) && fitsP xs (af.set u (room - x))) af <;> rfl
end Vs

namespace Vs
open Go
theorem bits64 : IntKind.bits .i64 = 64 := rfl
theorem ofNat64 (a : Nat) : BitVec.ofInt 64 (a : Int) = BitVec.ofNat 64 a := by
  apply BitVec.eq_of_toNat_eq
  simp [BitVec.toNat_ofInt]
theorem bxor (a b : Nat) (ha : a < 2 ^ 62) (hb : b < 2 ^ 62) : bits .xor .i64 (a : Int) (b : Int) = ((a ^^^ b : Nat) : Int) := by
  have hab : a ^^^ b < 2 ^ 62 := Nat.xor_lt_two_pow ha hb
  show IntKind.wrap .i64 ((BitVec.ofInt 64 (a : Int) ^^^ BitVec.ofInt 64 (b : Int)).toNat : Int) = _
  rw [ofNat64, ofNat64, BitVec.toNat_xor, BitVec.toNat_ofNat, BitVec.toNat_ofNat, Nat.mod_eq_of_lt (by omega), Nat.mod_eq_of_lt (by omega), w64_eq (by omega) (by omega)]
theorem tbit0 (m i : Nat) (hi : i < 64) (hm : m < 2 ^ 62) : (bits .and .i64 (Int.fdiv (m : Int) (2 ^ (min i (IntKind.bits .i64)))) 1 == 0) = !m.testBit i := by
  have e1 : min i (IntKind.bits .i64) = i := by rw [bits64]; omega
  have e2 : Int.fdiv (m : Int) (2 ^ i) = ((m / 2 ^ i : Nat) : Int) := by
    rw [Int.fdiv_eq_ediv_of_nonneg _ (by exact_mod_cast Nat.zero_le (2 ^ i))]
    simp
  have hlt : m / 2 ^ i < 2 ^ 62 := Nat.lt_of_le_of_lt (Nat.div_le_self ..) hm
  rw [e1, e2]
  have e3 : bits .and .i64 ((m / 2 ^ i : Nat) : Int) 1 = ((m / 2 ^ i % 2 : Nat) : Int) := by
    show IntKind.wrap .i64 ((BitVec.ofInt 64 ((m / 2 ^ i : Nat) : Int) &&& BitVec.ofInt 64 ((1 : Nat) : Int)).toNat : Int) = _
    rw [ofNat64, ofNat64, BitVec.toNat_and, BitVec.toNat_ofNat, BitVec.toNat_ofNat, Nat.mod_eq_of_lt (by omega), Nat.mod_eq_of_lt (by omega), Nat.and_one_is_mod, w64_eq (by omega) (by omega)]
  rw [e3, Nat.testBit_eq_decide_div_mod_eq]
  have := Nat.mod_two_eq_zero_or_one (m / 2 ^ i)
  rcases this with h | h <;> rw [h] <;> rfl
theorem shl1 (x : Nat) (hx : x < 62) : IntKind.wrap .i64 (1 * 2 ^ (min x (IntKind.bits .i64))) = ((2 ^ x : Nat) : Int) := by
  have e1 : min x (IntKind.bits .i64) = x := by rw [bits64]; omega
  have h : 2 ^ x < 2 ^ 62 := Nat.pow_lt_pow_right (by omega) hx
  have e2 : ((1 : Int) * 2 ^ x) = ((2 ^ x : Nat) : Int) := by simp
  have key : ∀ q : Nat, q < 2 ^ 62 → IntKind.wrap .i64 (q : Int) = (q : Int) := fun q hq => w64_eq (by omega) (by omega)
  rw [e1, e2, key _ h]
theorem wu64 (n : Nat) (h : n < 100) : IntKind.wrap .u64 (n : Int) = (n : Int) := by
  unfold IntKind.wrap; simp [IntKind.bits, IntKind.signed]; omega
theorem tb_xor {m i : Nat} (h : m.testBit i = true) : (m ^^^ 2 ^ i).testBit = fun j => m.testBit j && j != i := by
  funext j
  rw [Nat.testBit_xor, Nat.testBit_two_pow]
  by_cases e : i = j
  · subst e; simp [h]
  · have : j ≠ i := fun h => e h.symm
    simp [e, this]
theorem xor_lt {m i : Nat} (h : m.testBit i = true) : m ^^^ 2 ^ i < m := by
  have h1 : m ^^^ 2 ^ i ≤ m := Nat.le_of_testBit fun j hj => by
    rw [tb_xor h] at hj
    simp only [Bool.and_eq_true] at hj
    exact hj.1
  have h2 : m ^^^ 2 ^ i ≠ m := fun e => by
    have h3 : (m ^^^ 2 ^ i).testBit i = false := by rw [tb_xor h]; simp
    rw [e, h] at h3; cases h3
  omega
theorem bit_lt {m n i : Nat} (hm : m < 2 ^ n) (h : m.testBit i = true) : i < n := by
  rcases Nat.lt_or_ge i n with h2 | h2
  · exact h2
  · rw [Nat.testBit_lt_two_pow (Nat.lt_of_lt_of_le hm (Nat.pow_le_pow_right (by omega) h2))] at h; cases h
structure Cel (xs : List Int) (cap : Int) (m u : Nat) (r : Int) : Prop where
  fz : Fz xs cap m.testBit u r
  oz : Oz xs cap m.testBit u r
  sm : ∀ k, m < 2 ^ k → u ≤ k
  nn : 0 ≤ r
structure Tab (xs : List Int) (cap : Int) (M : Nat) (U R : List Int) : Prop where
  lu : U.length = 2 ^ xs.length
  lr : R.length = 2 ^ xs.length
  ok : ∀ m, m < M → ∃ (u : Nat) (r : Int), U[m]? = some (u : Int) ∧ R[m]? = some r ∧ Cel xs cap m u r
def cd (U R : List Int) (m i : Nat) : Nat × Int := ((U.getD (m ^^^ 2 ^ i) 0).toNat, R.getD (m ^^^ 2 ^ i) 0)
variable {xs : List Int} {cap : Int}
theorem cd_ok {m i : Nat} {U R : List Int} (hT : Tab xs cap m U R) (h : m.testBit i = true) : U[m ^^^ 2 ^ i]? = some ((cd U R m i).1 : Int) ∧ R[m ^^^ 2 ^ i]? = some (cd U R m i).2 ∧ Cel xs cap (m ^^^ 2 ^ i) (cd U R m i).1 (cd U R m i).2 := by
  obtain ⟨u, r, h1, h2, h3⟩ := hT.ok (m ^^^ 2 ^ i) (xor_lt h)
  have e1 : U.getD (m ^^^ 2 ^ i) 0 = u := by rw [List.getD_eq_getElem?_getD, h1]; rfl
  have e2 : R.getD (m ^^^ 2 ^ i) 0 = r := by rw [List.getD_eq_getElem?_getD, h2]; rfl
  unfold cd
  rw [e1, e2]
  exact ⟨h1, h2, h3⟩
theorem Cel_new (hx : ∀ x ∈ xs, 1 ≤ x ∧ x ≤ cap) {m : Nat} (hm : m < 2 ^ xs.length) (hm0 : 0 < m) {U R : List Int} (hT : Tab xs cap m U R) (j : Nat) (hj : m.testBit j = true) (u : Nat) (r : Int)
    (hu : (u, r) = stp cap (cd U R m j) (xs.getD j 0)) (hle : ∀ i, i < xs.length → m.testBit i = true → le2 u r (stp cap (cd U R m i) (xs.getD i 0)).1 (stp cap (cd U R m i) (xs.getD i 0)).2) : Cel xs cap m u r := by
  have hjn := bit_lt hm hj
  have gd : ∀ i, i < xs.length → xs[i]? = some (xs.getD i 0) := fun i hi => by rw [List.getD_eq_getElem?_getD, List.getElem?_eq_getElem hi]; rfl
  have hxj := hx _ (List.mem_of_getElem? (gd j hjn))
  obtain ⟨_, _, c⟩ := cd_ok hT hj
  have hf : Fz xs cap m.testBit u r := by
    have h1 := c.fz
    rw [tb_xor hj] at h1
    have := Fz_step (gd j hjn) hj ⟨by omega, hxj.2⟩ h1
    rw [show ((cd U R m j).1, (cd U R m j).2) = cd U R m j from rfl, ← hu] at this
    exact this
  refine ⟨hf, ?_, ?_, ?_⟩
  · refine Oz_step (fun x h => by have := hx x h; omega) (cd U R m) u r (fun i x hi hb => ?_) ⟨j, hjn, hj⟩
    have hin := (List.getElem?_eq_some_iff.1 hi).1
    have ex : x = xs.getD i 0 := by have := gd i hin; rw [hi] at this; exact Option.some.inj this
    obtain ⟨_, _, c⟩ := cd_ok hT hb
    have h1 := c.oz
    rw [tb_xor hb] at h1
    rw [ex]
    exact ⟨h1, hle i hin hb⟩
  · intro k
    induction k with
    | zero => intro h; omega
    | succ k ih =>
      intro h
      rcases Nat.lt_or_ge m (2 ^ k) with h2 | h2
      · have := ih h2; omega
      · have hb : m.testBit k = true := by
          rw [Nat.testBit_eq_decide_div_mod_eq]
          have : m / 2 ^ k = 1 := Nat.div_eq_of_lt_le (by omega) (by rw [Nat.pow_succ] at h; omega)
          rw [this]; rfl
        have hkn := bit_lt hm hb
        have hlt : m ^^^ 2 ^ k < 2 ^ k := Nat.lt_pow_two_of_testBit _ fun i hi => by
          rw [tb_xor hb]
          show (m.testBit i && i != k) = false
          by_cases e : i = k
          · simp [e]
          · rw [Nat.testBit_lt_two_pow (Nat.lt_of_lt_of_le h (Nat.pow_le_pow_right (by omega) (by omega)))]; rfl
        obtain ⟨_, _, c⟩ := cd_ok hT hb
        have h3 := c.sm k hlt
        have h4 := hle k hkn hb
        have h5 : (stp cap (cd U R m k) (xs.getD k 0)).1 ≤ (cd U R m k).1 + 1 := by unfold stp; split <;> simp
        unfold le2 at h4
        omega
  · obtain ⟨f, _, h2, _⟩ := hf
    rw [← h2]
    exact load_nn (fun x h => by have := hx x h; omega) _ _ _
theorem p_FL2 (hx : ∀ x ∈ xs, 1 ≤ x ∧ x ≤ cap) (hc : 1 ≤ cap ∧ cap ≤ 10000) (hn : xs.length ≤ 10) {m : Nat} (hm : m < 2 ^ xs.length) (hm0 : 0 < m) {U R : List Int} (hT : Tab xs cap m U R) :
    ∃ (u : Nat) (r : Int), iter (M_spec_FewestUnitsL2 xs cap ((m : Int), U, R)) N0 (1000, 0, 0) = some ((u : Int), r) ∧ Cel xs cap m u r := by
  have hm62 : m < 2 ^ 62 := Nat.lt_trans hm (Nat.pow_lt_pow_right (by omega) (by omega))
  have h10 : (2 : Nat) ^ xs.length ≤ 2 ^ 10 := Nat.pow_le_pow_right (by omega) hn
  have gd : ∀ i, i < xs.length → xs[i]? = some (xs.getD i 0) := fun i hi => by rw [List.getD_eq_getElem?_getD, List.getElem?_eq_getElem hi]; rfl
  obtain ⟨o, o1, o2⟩ := iter_inv (f := M_spec_FewestUnitsL2 xs cap ((m : Int), U, R)) (fun s => ∃ i : Nat, s.2.2 = i ∧ i ≤ xs.length ∧ ((s.1 = 1000 ∧ s.2.1 = 0 ∧ ∀ j, j < i → m.testBit j = false) ∨ ∃ j, j < i ∧ m.testBit j = true ∧ s.1 = ((stp cap (cd U R m j) (xs.getD j 0)).1 : Int) ∧ s.2.1 = (stp cap (cd U R m j) (xs.getD j 0)).2) ∧
      ∀ j, j < i → m.testBit j = true → le2 s.1 s.2.1 (stp cap (cd U R m j) (xs.getD j 0)).1 (stp cap (cd U R m j) (xs.getD j 0)).2) (fun s => xs.length - s.2.2.toNat) (fun o => ∃ j, j < xs.length ∧ m.testBit j = true ∧ o.1 = ((stp cap (cd U R m j) (xs.getD j 0)).1 : Int) ∧ o.2 = (stp cap (cd U R m j) (xs.getD j 0)).2 ∧
      ∀ j, j < xs.length → m.testBit j = true → le2 o.1 o.2 (stp cap (cd U R m j) (xs.getD j 0)).1 (stp cap (cd U R m j) (xs.getD j 0)).2) (fun s hI => by
    obtain ⟨b, us, i'⟩ := s
    obtain ⟨i, rfl, hi, hA, hB⟩ := hI
    simp only at hA hB
    by_cases h : i < xs.length
    · left
      have e1 : decide ((i : Int) < (xs.length : Int)) = true := decide_eq_true (by omega)
      have hw : IntKind.wrap .i64 ((i : Int) + 1) = ((i + 1 : Nat) : Int) := by rw [w64_eq (by omega) (by omega)]; rfl
      have htb := tbit0 m i (by omega) hm62
      simp only [M_spec_FewestUnitsL2, e1, cond_true, wu64 i (by omega), Int.toNat_natCast, htb, hw]
      rw [grd_t (by omega)]
      simp only [Option.bind_some]
      rcases bt (m.testBit i) with hb | hb
      · obtain ⟨c1, c2, c3⟩ := cd_ok hT hb
        have hxl := xor_lt hb
        have hu1 : (cd U R m i).1 ≤ 10 := by have := c3.sm xs.length (by omega); omega
        have hr1 := Fz_cap c3.fz
        have hr0 := c3.nn
        have hxi := hx _ (List.mem_of_getElem? (gd i h))
        rw [hb]
        simp only [Bool.not_true, cond_false, shl1 i (by omega), bxor m (2 ^ i) hm62 (Nat.pow_lt_pow_right (by omega) (by omega)), Int.toNat_natCast, c1, c2, geti_nat, gd i h]
        have hgu : grd (0 ≤ ((m ^^^ 2 ^ i : Nat) : Int) ∧ ((m ^^^ 2 ^ i : Nat) : Int) < (U.length : Int)) = some () := grd_t (by rw [hT.lu]; omega)
        have hgr : grd (0 ≤ ((m ^^^ 2 ^ i : Nat) : Int) ∧ ((m ^^^ 2 ^ i : Nat) : Int) < (R.length : Int)) = some () := grd_t (by rw [hT.lr]; omega)
        rw [hgu, hgr]
        simp only [Option.bind_some]
        rw [w64_eq (n := (cd U R m i).2 + xs.getD i 0) (by omega) (by omega), w64_eq (n := ((cd U R m i).1 : Int) + 1) (by omega) (by omega)]
        have hst : (cond (decide (cap < (cd U R m i).2 + xs.getD i 0)) (some (((cd U R m i).1 : Int) + 1, xs.getD i 0)) (some (((cd U R m i).1 : Int), (cd U R m i).2 + xs.getD i 0)) : Option (Int × Int)) = some (((stp cap (cd U R m i) (xs.getD i 0)).1 : Int), (stp cap (cd U R m i) (xs.getD i 0)).2) := by
          unfold stp
          by_cases hcc : cap < (cd U R m i).2 + xs.getD i 0
          · rw [decide_eq_true hcc, cond_true, if_pos hcc]; rfl
          · rw [decide_eq_false hcc, cond_false, if_neg hcc]
        have hsu : (stp cap (cd U R m i) (xs.getD i 0)).1 ≤ 11 := by unfold stp; split <;> simp <;> omega
        rw [hst]
        simp only [Option.bind_some]
        generalize hp : stp cap (cd U R m i) (xs.getD i 0) = p at hsu
        by_cases q1 : (p.1 : Int) < b
        · rw [decide_eq_true q1]
          simp only [cond_true, Option.bind_some]
          refine ⟨_, rfl, ⟨i + 1, rfl, by omega, .inr ⟨i, by omega, hb, by rw [hp], by rw [hp]⟩, fun j hj hjb => ?_⟩, by simp only [Int.toNat_natCast]; omega⟩
          by_cases e : j = i
          · subst e; rw [hp]; first | exact .inr ⟨rfl, Int.le_refl _⟩ | (unfold le2; simp only; omega)
          · have := hB j (by omega) hjb; unfold le2 at this ⊢; simp only; omega
        · rw [decide_eq_false q1]
          simp only [cond_false]
          by_cases q2 : (p.1 : Int) = b
          · rw [beq_iff_eq.2 q2, cond_true]
            simp only [Option.bind_some]
            by_cases q3 : p.2 < us
            · rw [decide_eq_true q3, cond_true]
              refine ⟨_, rfl, ⟨i + 1, rfl, by omega, .inr ⟨i, by omega, hb, by rw [hp], by rw [hp]⟩, fun j hj hjb => ?_⟩, by simp only [Int.toNat_natCast]; omega⟩
              by_cases e : j = i
              · subst e; rw [hp]; first | exact .inr ⟨rfl, Int.le_refl _⟩ | (unfold le2; simp only; omega)
              · have := hB j (by omega) hjb; unfold le2 at this ⊢; simp only; omega
            · rw [decide_eq_false q3, cond_false]
              refine ⟨_, rfl, ⟨i + 1, rfl, by omega, ?_, fun j hj hjb => ?_⟩, by simp only [Int.toNat_natCast]; omega⟩
              · rcases hA with ⟨a1, a2, a3⟩ | ⟨j, a1, a2, a3, a4⟩
                · exfalso; omega
                · exact .inr ⟨j, by omega, a2, a3, a4⟩
              · by_cases e : j = i
                · subst e; rw [hp]; first | exact .inr ⟨rfl, Int.le_refl _⟩ | (unfold le2; simp only; omega)
                · exact hB j (by omega) hjb
          · rw [beq_eq_false_iff_ne.2 q2, cond_false]
            simp only [Option.bind_some, cond_false]
            refine ⟨_, rfl, ⟨i + 1, rfl, by omega, ?_, fun j hj hjb => ?_⟩, by simp only [Int.toNat_natCast]; omega⟩
            · rcases hA with ⟨a1, a2, a3⟩ | ⟨j, a1, a2, a3, a4⟩
              · exfalso; omega
              · exact .inr ⟨j, by omega, a2, a3, a4⟩
            · by_cases e : j = i
              · subst e; rw [hp]; first | exact .inr ⟨rfl, Int.le_refl _⟩ | (unfold le2; simp only; omega)
              · exact hB j (by omega) hjb
      · rw [hb]
        simp only [Bool.not_false, cond_true]
        refine ⟨_, rfl, ⟨i + 1, rfl, by omega, ?_, fun j hj hjb => ?_⟩, by simp only [Int.toNat_natCast]; omega⟩
        · rcases hA with ⟨a1, a2, a3⟩ | ⟨j, a1, a2, a3, a4⟩
          · exact .inl ⟨a1, a2, fun j hj => by
              by_cases e : j = i
              · rw [e]; exact hb
              · exact a3 j (by omega)⟩
          · exact .inr ⟨j, by omega, a2, a3, a4⟩
        · by_cases e : j = i
          · rw [e, hb] at hjb; cases hjb
          · exact hB j (by omega) hjb
    · right
      have e1 : decide ((i : Int) < (xs.length : Int)) = false := decide_eq_false (by omega)
      have hi2 : i = xs.length := by omega
      subst hi2
      refine ⟨(b, us), by simp only [M_spec_FewestUnitsL2, e1, cond_false], ?_⟩
      rcases hA with ⟨a1, a2, a3⟩ | ⟨j, a1, a2, a3, a4⟩
      · exfalso
        have : m = 0 := Nat.eq_of_testBit_eq fun i => by
          rw [Nat.zero_testBit]
          cases hb : m.testBit i with
          | false => rfl
          | true => rw [a3 i (bit_lt hm hb)] at hb; cases hb
        omega
      · exact ⟨j, a1, a2, a3, a4, hB⟩) N0 (1000, 0, ((0 : Nat) : Int)) ⟨0, rfl, by omega, .inl ⟨rfl, rfl, fun j hj => by omega⟩, fun j hj => by omega⟩ (N0_lt (by simp; omega))
  obtain ⟨j, j1, j2, j3, j4, j5⟩ := o2
  obtain ⟨ob, ou⟩ := o
  simp only at j3 j4 j5
  subst j3 j4
  exact ⟨_, _, o1, Cel_new hx hm hm0 hT j j2 _ _ rfl j5⟩
theorem p_FL1 (hx : ∀ x ∈ xs, 1 ≤ x ∧ x ≤ cap) (hc : 1 ≤ cap ∧ cap ≤ 10000) (hn : xs.length ≤ 10) :
    ∃ U R, iter (M_spec_FewestUnitsL1 xs cap) N0 (1, List.replicate (2 ^ xs.length) 0, List.replicate (2 ^ xs.length) 0) = some U ∧ Tab xs cap (2 ^ xs.length) U R := by
  have h10 : (2 : Nat) ^ xs.length ≤ 2 ^ 10 := Nat.pow_le_pow_right (by omega) hn
  have h1 : 1 ≤ (2 : Nat) ^ xs.length := Nat.one_le_two_pow
  have hn1 : IntKind.wrap .i64 (1 * 2 ^ (min (Int.toNat (IntKind.wrap .u64 (xs.length : Int))) (IntKind.bits .i64))) = ((2 ^ xs.length : Nat) : Int) := by
    rw [wu64 xs.length (by omega), Int.toNat_natCast, shl1 xs.length (by omega)]
  have hz : ∀ m, (List.replicate (2 ^ xs.length) (0 : Int))[m]? = if m < 2 ^ xs.length then some 0 else none := fun m => List.getElem?_replicate
  obtain ⟨o, o1, R, o2⟩ := iter_inv (f := M_spec_FewestUnitsL1 xs cap) (fun s => ∃ m : Nat, s.1 = m ∧ 1 ≤ m ∧ m ≤ 2 ^ xs.length ∧ Tab xs cap m s.2.1 s.2.2) (fun s => 2 ^ xs.length - s.1.toNat) (fun o => ∃ R, Tab xs cap (2 ^ xs.length) o R) (fun s hI => by
    obtain ⟨m', U, R⟩ := s
    obtain ⟨m, rfl, i1, i2, hT⟩ := hI
    simp only at hT
    by_cases h : m < 2 ^ xs.length
    · left
      have e1 : decide ((m : Int) < ((2 ^ xs.length : Nat) : Int)) = true := decide_eq_true (by omega)
      obtain ⟨u, r, g1, g2⟩ := p_FL2 hx hc hn h i1 hT
      have hU := hT.lu
      have hR := hT.lr
      have hUm : U[m]? = some (U[m]'(by omega)) := List.getElem?_eq_getElem (by omega)
      have hRm : R[m]? = some (R[m]'(by omega)) := List.getElem?_eq_getElem (by omega)
      refine ⟨((m + 1 : Nat), U.set m u, R.set m r), by
        simp only [M_spec_FewestUnitsL1, hn1, e1, cond_true, g1, Option.bind_some, Int.toNat_natCast, hUm, hRm, bnd]
        rw [grd_t (by omega), grd_t (by omega), w64_eq (by omega) (by omega)]
        rfl, ⟨m + 1, rfl, by omega, by omega, by simp [hU], by simp [hR], fun k hk => ?_⟩, by simp only [Int.toNat_natCast]; omega⟩
      simp only
      by_cases e : k = m
      · subst e
        exact ⟨u, r, List.getElem?_set_self (by omega), List.getElem?_set_self (by omega), g2⟩
      · obtain ⟨u', r', k1, k2, k3⟩ := hT.ok k (by omega)
        exact ⟨u', r', by rw [List.getElem?_set_ne (Ne.symm e)]; exact k1, by rw [List.getElem?_set_ne (Ne.symm e)]; exact k2, k3⟩
    · right
      have e1 : decide ((m : Int) < ((2 ^ xs.length : Nat) : Int)) = false := decide_eq_false (by omega)
      have : m = 2 ^ xs.length := by omega
      subst this
      exact ⟨U, by simp only [M_spec_FewestUnitsL1, hn1, e1, cond_false], R, hT⟩) N0 (((1 : Nat) : Int), List.replicate (2 ^ xs.length) 0, List.replicate (2 ^ xs.length) 0) ⟨1, rfl, by omega, h1, by simp, by simp, fun m hm => by
      have : m = 0 := by omega
      subst this
      refine ⟨0, 0, by rw [hz, if_pos (by omega)]; rfl, by rw [hz, if_pos (by omega)], Fz_empty (by omega) fun i _ => Nat.zero_testBit i, Oz_empty fun x h => by have := hx x h; omega, fun k _ => by omega, by omega⟩⟩ (N0_lt (by simp; omega))
  exact ⟨o, R, o1, o2⟩
theorem full_tb {n i : Nat} (h : i < n) : (2 ^ n - 1).testBit i = true := by
  rw [Nat.testBit_two_pow_sub_one]; simp [h]
/-- what is fewest -/
theorem fits_of_Fz (hx : ∀ x ∈ xs, 1 ≤ x ∧ x ≤ cap) (hc : 1 ≤ cap) {u : Nat} {r : Int} (h : Fz xs cap (2 ^ xs.length - 1).testBit u r) : fitsP xs (List.replicate (u + 1) cap) = true := by
  rw [fits_iff xs _ (fun x h => by have := hx x h; omega) (fun r hr => by rw [List.eq_of_mem_replicate hr]; omega), List.length_replicate]
  obtain ⟨f, f1, _, f3⟩ := h
  refine ⟨f, fun i hi => by have := f1 i hi (full_tb hi); omega, fun b hb => ?_⟩
  have e : load xs allS f b = load xs (2 ^ xs.length - 1).testBit f b := load_congr _ _ _ _ _ _ fun i hi => ⟨by rw [full_tb hi]; rfl, fun _ => rfl⟩
  have e2 : (List.replicate (u + 1) cap).getD b 0 = cap := by rw [List.getD_eq_getElem?_getD, List.getElem?_replicate, if_pos hb]; rfl
  simp only [e, e2]
  exact f3 b (by omega)
theorem few_of_Oz (hx : ∀ x ∈ xs, 1 ≤ x ∧ x ≤ cap) (hc : 1 ≤ cap) (h0 : 0 < xs.length) {u : Nat} {r : Int} (h : Oz xs cap (2 ^ xs.length - 1).testBit u r) (k : Nat) (hk : k < u + 1) : fitsP xs (List.replicate k cap) = false := by
  rw [Bool.eq_false_iff]
  intro hf
  rw [fits_iff xs _ (fun x h => by have := hx x h; omega) (fun r hr => by rw [List.eq_of_mem_replicate hr]; omega), List.length_replicate] at hf
  obtain ⟨f, f1, f2⟩ := hf
  have hk0 := f1 0 h0
  have := h (List.range k) 0 f List.nodup_range (List.mem_range.2 (by omega)) (fun i hi _ => List.mem_range.2 (f1 i hi)) (fun b hb => by
    have hb := List.mem_range.1 hb
    have := f2 b hb
    have e : load xs allS f b = load xs (2 ^ xs.length - 1).testBit f b := load_congr _ _ _ _ _ _ fun i hi => ⟨by rw [full_tb hi]; rfl, fun _ => rfl⟩
    have e2 : (List.replicate k cap).getD b 0 = cap := by rw [List.getD_eq_getElem?_getD, List.getElem?_replicate, if_pos hb]; rfl
    simp only [e2] at this
    omega)
  rw [List.length_range] at this
  unfold le2 at this
  omega
def okF (xs : List Int) (cap : Int) : Bool := packOk xs cap && decide (xs.length ≤ 10)
theorem okF_d (h : okF xs cap = true) : xs.length ≤ 10 ∧ (1 ≤ cap ∧ cap ≤ 10000) ∧ ∀ x ∈ xs, 1 ≤ x ∧ x ≤ cap := by
  simp only [okF, packOk, wi, Bool.and_eq_true, decide_eq_true_eq, Bool.not_eq_true', List.any_eq_false, Bool.not_eq_false] at h
  obtain ⟨⟨⟨h1, _⟩, h2⟩, h3⟩ := h
  exact ⟨h3, h1, fun x hx => by simpa using h2 x hx⟩
theorem p_spec_FU (hl : xs.length < 2 ^ 62) : M_spec_FewestUnits xs cap = some (0, false) ∧ okF xs cap = false ∨ okF xs cap = true ∧ ∃ k : Nat, M_spec_FewestUnits xs cap = some ((k : Int), true) ∧ k ≤ 11 ∧ fitsP xs (List.replicate k cap) = true ∧ ∀ j, j < k → fitsP xs (List.replicate j cap) = false := by
  unfold M_spec_FewestUnits
  rw [p_l18Rates xs cap hl]
  simp only [Option.bind_some]
  rcases bt (okF xs cap) with e | e
  · right
    refine ⟨e, ?_⟩
    obtain ⟨h1, h2, h3⟩ := okF_d e
    have ep : packOk xs cap = true := by unfold okF at e; exact (Bool.and_eq_true_iff.1 e).1
    have h10 : (2 : Nat) ^ xs.length ≤ 2 ^ 10 := Nat.pow_le_pow_right (by omega) h1
    have hp1 : 1 ≤ (2 : Nat) ^ xs.length := Nat.one_le_two_pow
    rw [ep, decide_eq_false (by omega : ¬ (10 : Int) < (xs.length : Int))]
    simp only [Bool.not_true, cond_false, Option.bind_some]
    have hn1 : IntKind.wrap .i64 (1 * 2 ^ (min (Int.toNat (IntKind.wrap .u64 (xs.length : Int))) (IntKind.bits .i64))) = ((2 ^ xs.length : Nat) : Int) := by
      rw [wu64 xs.length (by omega), Int.toNat_natCast, shl1 xs.length (by omega)]
    rw [hn1, wu64 xs.length (by omega), grd_t (by omega), grd_t (by omega)]
    obtain ⟨U, R, g1, g2⟩ := p_FL1 h3 h2 h1
    simp only [Option.bind_some, bnd, Int.toNat_natCast, g1]
    rcases Nat.eq_zero_or_pos xs.length with h0 | h0
    · have : xs = [] := List.length_eq_zero_iff.1 h0
      subst this
      exact ⟨0, rfl, by omega, rfl, fun j hj => by omega⟩
    · have hb : ((xs.length : Int) == 0) = false := by rw [beq_eq_false_iff_ne]; omega
      obtain ⟨u, r, k1, k2, k3⟩ := g2.ok (2 ^ xs.length - 1) (by omega)
      have hw : IntKind.wrap .i64 (((2 ^ xs.length : Nat) : Int) - 1) = ((2 ^ xs.length - 1 : Nat) : Int) := by rw [w64_eq (by omega) (by omega)]; omega
      have hu : u ≤ 10 := by have := k3.sm xs.length (by omega); omega
      rw [hb, cond_false, hw, Int.toNat_natCast, k1, grd_t (by rw [g2.lu]; omega)]
      simp only [Option.bind_some]
      rw [w64_eq (by omega) (by omega)]
      exact ⟨u + 1, rfl, by omega, fits_of_Fz h3 h2.1 k3.fz, fun j hj => few_of_Oz h3 h2.1 h0 k3.oz j hj⟩
  · left
    refine ⟨?_, e⟩
    have : (cond (!packOk xs cap) (some true) (some (decide ((10 : Int) < (xs.length : Int)))) : Option Bool) = some true := by
      unfold okF at e
      rcases bt (packOk xs cap) with e1 | e1
      · rw [e1] at e ⊢
        simp only [Bool.true_and, decide_eq_false_iff_not] at e
        rw [decide_eq_true (by omega)]; rfl
      · rw [e1]; rfl
    rw [this]; rfl
theorem p_isP10 (hl : xs.length < 2 ^ 62) : M_impl_isPacking xs cap 10 = some (okF xs cap) := by
  unfold M_impl_isPacking okF packOk
  have hc : ∀ x, M_impl_isPacking_c1 x cap = some (!wi x 1 cap) := fun x => by unfold M_impl_isPacking_c1; rw [p_within]; rfl
  simp only [p_within, Option.bind_some, p_ContainsFunc_Lint_int xs (fun x0 => M_impl_isPacking_c1 x0 cap) (fun x => !wi x 1 cap) hc hl]
  cases wi cap 1 10000
  · simp
  · by_cases h : xs.length ≤ 10
    · have h2 : xs.length ≤ 12 := by omega
      simp [h, h2]
      have : ((xs.length : Int) ≤ 10) := by omega
      simp [this]
    · have : ¬ ((xs.length : Int) ≤ 10) := by omega
      simp [h, this]
theorem fits_perm {ys : List Int} (h : ys.Perm xs) (hx : ∀ x ∈ xs, 0 ≤ x) (hc : 0 ≤ cap) (k : Nat) : fitsP ys (List.replicate k cap) = fitsP xs (List.replicate k cap) := by
  have hr : ∀ r ∈ List.replicate k cap, 0 ≤ r := fun r hr => by rw [List.eq_of_mem_replicate hr]; exact hc
  rw [Bool.eq_iff_iff, fits_iff ys _ (fun y hy => hx y (h.mem_iff.1 hy)) hr, fits_iff xs _ hx hr]
  exact ⟨Pk_perm h, Pk_perm h.symm⟩
theorem p_impl_FU (hl : xs.length < 2 ^ 62) : okF xs cap = false → M_impl_FewestUnits xs cap = some (0, false) := fun e => by
  unfold M_impl_FewestUnits
  rw [p_isP10 hl, e]; rfl
theorem p_impl_FUk (e : okF xs cap = true) (k : Nat) (hk : k ≤ 11) (hf : fitsP xs (List.replicate k cap) = true) (hno : ∀ j, j < k → fitsP xs (List.replicate j cap) = false) : M_impl_FewestUnits xs cap = some ((k : Int), true) := by
  obtain ⟨h1, h2, h3⟩ := okF_d e
  unfold M_impl_FewestUnits
  rw [p_isP10 (by omega), e]
  simp only [Option.bind_some, Bool.not_true, cond_false]
  have hcl : M_slices_Clone_Lint_int xs = some xs := by
    unfold M_slices_Clone_Lint_int
    rw [grd_t (by omega)]
    cases xs with
    | nil => rfl
    | cons x xs => rfl
  rw [hcl]
  simp only [Option.bind_some]
  obtain ⟨l, s1, s2⟩ := p_SortC xs (by omega)
  rw [s1]
  simp only [Option.bind_some]
  have hll : l.length = xs.length := s2.length_eq
  have hlx : ∀ x ∈ l, 0 ≤ x ∧ x ≤ 10000 := fun x hx => by have := h3 x (s2.mem_iff.1 hx); omega
  obtain ⟨o, o1, o2⟩ := iter_inv (f := M_impl_FewestUnitsL1 cap xs) (fun s => ∃ j : Nat, s.1 = j ∧ j ≤ k ∧ s.2 = l) (fun s => k - s.1.toNat) (fun o => o = (k : Int)) (fun s hI => by
    obtain ⟨j', l'⟩ := s
    obtain ⟨j, rfl, i1, i2⟩ := hI
    simp only at i2
    subst i2
    have hrun : M_impl_fitsM1 N0 0 xs.length l' (List.replicate j cap) = some (fitsP xs (List.replicate j cap), l', List.replicate j cap) := by
      rw [← hll, p_fits1 l' hlx (by omega) (List.replicate j cap) (by simp; omega) (fun r hr => by rw [List.eq_of_mem_replicate hr]; omega), fits_perm s2 (fun x hx => by have := h3 x hx; omega) (by omega) j]
    simp only [M_impl_FewestUnitsL1, bnd, p_Repeat cap j (by omega), Option.bind_some, hrun]
    by_cases h : j < k
    · left
      rw [hno j h]
      simp only [Bool.not_false, cond_true]
      rw [w64_eq (by omega) (by omega)]
      exact ⟨_, rfl, ⟨j + 1, rfl, by omega, rfl⟩, by simp only; omega⟩
    · right
      have : j = k := by omega
      subst this
      rw [hf]
      exact ⟨_, rfl, rfl⟩) N0 (((0 : Nat) : Int), l) ⟨0, rfl, by omega, rfl⟩ (N0_lt (by simp; omega))
  have e0 : ((0 : Nat) : Int) = 0 := rfl
  rw [e0] at o1
  rw [o1, o2]; rfl
theorem p_FnExactFewestUnits (x1 : List Int) (x2 : Int) (o1 : ok_IntS x1) : M_laws_FnExactFewestUnits x1 x2 = some true := by
  unfold M_laws_FnExactFewestUnits
  by_cases h : (1048576 : Int) < (x1.length : Int)
  · rw [decide_eq_true h, cond_true]
  rw [decide_eq_false h, cond_false]
  have z1 : z_IntS x1 ≤ 1048576 := by unfold z_IntS; omega
  rw [p_toIntS x1 z1]
  simp only [Option.bind_some, p_eqIntS x1 z1]
  rcases p_spec_FU (xs := x1) (cap := x2) (by omega) with ⟨h1, h2⟩ | ⟨h1, k, h2, h3, h4, h5⟩
  · rw [h1, p_impl_FU (by omega) h2]; rfl
  · rw [h2, p_impl_FUk h1 k h3 h4 h5]; simp
end Vs

