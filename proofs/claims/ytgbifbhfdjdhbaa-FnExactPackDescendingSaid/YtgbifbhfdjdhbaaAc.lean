/-
  Part of the proof that the law FnExactPackDescending returns true at every input; no condition beside the row's own.
-/
import Derived.Test.YtgbifbhfdjdhbaaAa
import Derived.Test.YtgbifbhfdjdhbaaFd
set_option linter.unusedSimpArgs false
set_option linter.unusedVariables false
namespace Vs
open Go
theorem p_toIntS (xs : List Int) (hl : xs.length ≤ 1048576) : M_laws_toIntS xs = some xs := by
  unfold M_laws_toIntS
  have key := iter_copy (f := M_laws_toIntSL1 xs) xs id (List.replicate (Int.toNat (xs.length : Int)) 0) (by simp) (fun i l x y hx hy hll => by
    have hlt := (List.getElem?_eq_some_iff.1 hx).1
    have h1 : decide ((i : Int) < xs.length) = true := by simp [hlt]
    have h2 : (0 ≤ (i : Int) ∧ (i : Int) < (l.length : Int)) := by omega
    simp only [M_laws_toIntSL1, h1, cond_true, geti_nat, hx, Option.bind_some, grd_t h2, Int.toNat_natCast, hy, bnd, id]
    rw [w64_eq (by omega) (by omega)]; rfl) (fun l => by simp [M_laws_toIntSL1]) (by omega)
  rw [grd_t (by omega)]
  simp only [Option.bind_some, bnd]
  rw [key]; simp
theorem p_eqIntS (xs ys : List Int) (hl : xs.length ≤ 1048576) : M_laws_eqIntS xs ys = some (decide (xs = ys)) := by
  unfold M_laws_eqIntS
  by_cases h : xs.length = ys.length
  · have key := iter_eq (f := M_laws_eqIntSL1 xs ys) xs ys (fun x y => decide (x = y)) h (fun i x y hx hy => by
      have hlt := (List.getElem?_eq_some_iff.1 hx).1
      have h1 : decide ((i : Int) < xs.length) = true := by simp [hlt]
      simp only [M_laws_eqIntSL1, h1, cond_true, geti_nat, hx, hy, Option.bind_some]
      rw [w64_eq (by omega) (by omega)]
      by_cases e : x = y <;> simp [e, cond_ite]) (by simp [M_laws_eqIntSL1]) (by omega)
    rw [key, zip_all_eq xs ys h]
    simp only [h, cond_ite]
    by_cases e : xs = ys <;> simp [e]
  · have e : xs ≠ ys := fun e => h (by rw [e])
    simp only [cond_ite, e, decide_false]
    rw [if_pos (by simp; omega)]
theorem p_markIntS (xs : List Int) (k0 : Int) (hk : 0 ≤ k0) (hk2 : k0 ≤ 1000000000000) (hl : xs.length ≤ 1048576) : M_laws_markIntSM1 k0 xs = some (k0 + xs.length, (List.range xs.length).map fun j : Nat => k0 + (j : Int)) := by
  unfold M_laws_markIntSM1
  obtain ⟨b, hb, h1⟩ := iter_inv (f := M_laws_markIntSM1L1) (fun s => s.2.2.length = xs.length ∧ ∃ i : Nat, s.2.1 = i ∧ i ≤ xs.length ∧ s.1 = k0 + i ∧ s.2.2.take i = (List.range i).map fun j : Nat => k0 + (j : Int)) (fun s => xs.length - s.2.1.toNat)
    (fun b => b = (k0 + (xs.length : Int), (List.range xs.length).map fun j : Nat => k0 + (j : Int))) (fun s hI => by
    obtain ⟨k, i', l⟩ := s
    obtain ⟨e1, i, e2, e3, e4, e5⟩ := hI
    simp only at e1 e2 e4 e5
    subst e2; subst e4
    by_cases h : i < l.length
    · left
      have h1 : decide ((i : Int) < (l.length : Int)) = true := by simp [h]
      have h2 : 0 ≤ (i : Int) ∧ (i : Int) < (l.length : Int) := by omega
      refine ⟨(k0 + ((i + 1 : Nat) : Int), ((i + 1 : Nat) : Int), l.set i (k0 + i)), ?_, ⟨by simpa using e1, i + 1, rfl, by omega, rfl, ?_⟩, ?_⟩
      · simp only [M_laws_markIntSM1L1, h1, cond_true, grd_t h2, Option.bind_some, Int.toNat_natCast, List.getElem?_eq_getElem h, bnd]
        rw [w64_eq (by omega) (by omega), w64_eq (by omega) (by omega)]
        simp [Int.add_assoc]
      · rw [List.range_succ, List.map_append, ← e5, List.take_add_one, List.take_set_of_le (by omega), List.getElem?_set_self h]
        rfl
      · simp only [Int.toNat_natCast]; omega
    · right
      have : i = xs.length := by omega
      subst this
      rw [List.take_of_length_le (by omega)] at e5
      exact ⟨(k0 + (xs.length : Int), l), by simp [M_laws_markIntSM1L1, e1], by rw [e5]⟩) N0 (k0, 0, xs) ⟨rfl, 0, rfl, by omega, by simp, by simp⟩ (N0_lt (by simp; omega))
  rw [hb, h1]; rfl
theorem p_heldIntS (n : Nat) (k0 : Int) (hk : 0 ≤ k0) (hk2 : k0 ≤ 1000000000000) (hl : n ≤ 1048576) : M_laws_heldIntS ((List.range n).map fun j : Nat => k0 + (j : Int)) k0 = some (k0 + n) := by
  unfold M_laws_heldIntS
  obtain ⟨b, hb, h1⟩ := iter_inv (f := M_laws_heldIntSL1 ((List.range n).map fun j : Nat => k0 + (j : Int))) (fun s => ∃ i : Nat, s.2 = i ∧ i ≤ n ∧ s.1 = k0 + i) (fun s => n - s.2.toNat) (fun b => b = .inl (k0 + n)) (fun s hI => by
    obtain ⟨k, i'⟩ := s
    obtain ⟨i, e2, e3, e4⟩ := hI
    simp only at e2 e4
    subst e2; subst e4
    by_cases h : i < n
    · left
      refine ⟨(k0 + ((i + 1 : Nat) : Int), ((i + 1 : Nat) : Int)), ?_, ⟨i + 1, rfl, by omega, rfl⟩, ?_⟩
      · have h1 : decide ((i : Int) < (((List.range n).map fun j : Nat => k0 + (j : Int)).length : Int)) = true := by simp [h]
        have h2 : ((List.range n).map fun j : Nat => k0 + (j : Int))[i]? = some (k0 + i) := by simp [h]
        simp only [M_laws_heldIntSL1, h1, cond_true, geti_nat, h2, Option.bind_some]
        rw [w64_eq (by omega) (by omega), w64_eq (by omega) (by omega)]
        simp [Int.add_assoc]
      · simp only [Int.toNat_natCast]; omega
    · right
      have : i = n := by omega
      subst this
      exact ⟨.inl (k0 + i), by simp [M_laws_heldIntSL1], rfl⟩) N0 (k0, 0) ⟨0, rfl, by omega, by simp⟩ (N0_lt (by simp; omega))
  rw [hb, h1]; rfl
theorem p_IndexFunc_Lint_int (xs : List Int) (f : Int → Option Bool) (p : Int → Bool) (hf : ∀ x, f x = some (p x)) (hl : xs.length < 2 ^ 62) : ∃ r, M_slices_IndexFunc_Lint_int xs f = some r ∧ (decide (0 ≤ r) = xs.any p) := by
  obtain ⟨b, key, hb⟩ := iter_index (f := M_slices_IndexFunc_Lint_intL1 xs f) xs p (fun i x hx => by
    have hlt := (List.getElem?_eq_some_iff.1 hx).1
    have h1 : decide ((i : Int) < xs.length) = true := by simp [hlt]
    simp only [M_slices_IndexFunc_Lint_intL1, h1, cond_true, geti_nat, hx, hf, Option.bind_some]
    rw [w64_eq (by omega) (by omega)]
    rcases bt (p x) with e | e <;> simp [e]) (by simp [M_slices_IndexFunc_Lint_intL1]) (by omega)
  unfold M_slices_IndexFunc_Lint_int
  rw [key]
  rcases hb with ⟨rfl, h⟩ | ⟨k, rfl, h⟩
  · exact ⟨-1, rfl, by rw [h]; rfl⟩
  · exact ⟨k, rfl, by rw [h]; simp⟩
theorem p_ContainsFunc_Lint_int (xs : List Int) (f : Int → Option Bool) (p : Int → Bool) (hf : ∀ x, f x = some (p x)) (hl : xs.length < 2 ^ 62) : M_slices_ContainsFunc_Lint_int xs f = some (xs.any p) := by
  unfold M_slices_ContainsFunc_Lint_int
  obtain ⟨r, h1, h2⟩ := p_IndexFunc_Lint_int xs f p hf hl
  simp [h1, h2]
end Vs

namespace Vs
open Go
def wi (x a b : Int) : Bool := decide (a ≤ x) && decide (x ≤ b)
theorem p_within (x a b : Int) : M_impl_within x a b = some (wi x a b) := by
  unfold M_impl_within wi; by_cases h : a ≤ x <;> simp [h]
theorem p_l1In (x a b : Int) : M_spec_l1In x a b = some (wi x a b) := by
  unfold M_spec_l1In wi; by_cases h : a ≤ x <;> simp [h]
theorem bounded_all {α : Type} {f : Int → Option (Int ⊕ (Unit ⊕ Bool))} (xs : List α) (p : α → Bool)
    (step : ∀ (i : Nat) x, xs[i]? = some x → f i = some (if i ≤ 12 then (if !p x then .inr (.inr false) else .inl ((i + 1 : Nat) : Int)) else .inr (.inl ())))
    (h2 : f xs.length = some (.inr (.inl ()))) (hl : xs.length < 18446744073709551615) :
    ∃ b, iter f N0 0 = some b ∧ (b = .inr false ∧ (xs.any fun t => !p t) = true ∨ b = .inl () ∧ (xs.length ≤ 13 → (xs.any fun t => !p t) = false)) := by
  have key : iter f N0 0 = some (walkL (fun i x (_ : Unit) => if i ≤ 12 then (if !p x then Sum.inr (Sum.inr false) else .inl ()) else .inr (.inl ())) (fun _ => Sum.inl ()) 0 xs ()) := by
    refine iter_list xs (fun i (_ : Unit) => (i : Int)) _ _ (fun _ _ => True) (fun i a x hx _ => ?_) (fun a _ => h2) () trivial hl
    rw [step i x hx]
    by_cases h2 : i ≤ 12
    · rcases bt (p x) with e | e
      · exact .inl ⟨(), by simp [h2, e], trivial, by simp [h2, e]⟩
      · exact .inr ⟨_, by simp [h2, e]; rfl, by simp [h2, e]⟩
    · exact .inr ⟨_, by simp [h2]; rfl, by simp [h2]⟩
  refine ⟨_, key, ?_⟩
  have gen : ∀ (ys : List α) (i : Nat), walkL (fun i x (_ : Unit) => if i ≤ 12 then (if !p x then Sum.inr (Sum.inr false) else .inl ()) else .inr (.inl ())) (fun _ => (Sum.inl () : Unit ⊕ Bool)) i ys () = .inr false ∧ (ys.any fun t => !p t) = true ∨
      walkL (fun i x (_ : Unit) => if i ≤ 12 then (if !p x then Sum.inr (Sum.inr false) else .inl ()) else .inr (.inl ())) (fun _ => (Sum.inl () : Unit ⊕ Bool)) i ys () = .inl () ∧ (i + ys.length ≤ 13 → (ys.any fun t => !p t) = false) := by
    intro ys
    induction ys with
    | nil => intro i; right; simp [walkL]
    | cons y ys ih =>
      intro i
      simp only [walkL, List.any_cons, List.length_cons]
      by_cases h2 : i ≤ 12
      · rcases bt (p y) with h | h
        · simp only [h2, h, if_true, Bool.not_true, Bool.false_eq_true, if_false, Bool.false_or]
          rcases ih (i + 1) with ⟨a, b⟩ | ⟨a, b⟩
          · exact .inl ⟨a, b⟩
          · exact .inr ⟨a, fun h => b (by omega)⟩
        · left; simp [h2, h]
      · right; simp only [h2, if_false]; exact ⟨trivial, fun h => by omega⟩
  rcases gen xs 0 with h | ⟨h, h'⟩
  · exact .inl h
  · exact .inr ⟨h, fun e => h' (by omega)⟩
theorem iter_fold {α A S B : Type} {f : S → Option (S ⊕ B)} (xs : List α) (st : Nat → A → S) (g : A → α → A) (fin : A → B) (I : Nat → A → Prop)
    (h1 : ∀ i a x, xs[i]? = some x → I i a → I (i + 1) (g a x) ∧ f (st i a) = some (.inl (st (i + 1) (g a x))))
    (h2 : ∀ a, I xs.length a → f (st xs.length a) = some (.inr (fin a))) (a0 : A) (h0 : I 0 a0) (hl : xs.length < 18446744073709551615) :
    iter f N0 (st 0 a0) = some (fin (xs.foldl g a0)) := by
  rw [iter_list xs st (fun _ x a => .inl (g a x)) fin I (fun i a x hx hI => .inl ⟨g a x, rfl, (h1 i a x hx hI).1, (h1 i a x hx hI).2⟩) h2 a0 h0 hl]
  have gen : ∀ (ys : List α) (i : Nat) (a : A), walkL (fun _ x a => (.inl (g a x) : A ⊕ B)) fin i ys a = fin (ys.foldl g a) := by
    intro ys
    induction ys with
    | nil => intro i a; rfl
    | cons y ys ih => intro i a; exact ih (i + 1) (g a y)
  rw [gen]

def packOk (xs : List Int) (cap : Int) : Bool := wi cap 1 10000 && decide (xs.length ≤ 12) && !xs.any fun t => !wi t 1 cap
theorem p_isPacking (xs : List Int) (cap : Int) (hl : xs.length < 2 ^ 62) : M_impl_isPacking xs cap 12 = some (packOk xs cap) := by
  unfold M_impl_isPacking packOk
  have hc : ∀ x, M_impl_isPacking_c1 x cap = some (!wi x 1 cap) := fun x => by unfold M_impl_isPacking_c1; rw [p_within]; rfl
  simp only [p_within, Option.bind_some, p_ContainsFunc_Lint_int xs (fun x0 => M_impl_isPacking_c1 x0 cap) (fun x => !wi x 1 cap) hc hl]
  have : decide ((xs.length : Int) ≤ 12) = decide (xs.length ≤ 12) := by simp; omega
  rw [this]
  cases wi cap 1 10000 <;> cases decide (xs.length ≤ 12) <;> simp
theorem p_l18Rates (xs : List Int) (cap : Int) (hl : xs.length < 2 ^ 62) : M_spec_l18Rates xs cap = some (packOk xs cap) := by
  unfold M_spec_l18Rates
  obtain ⟨b, key, hb⟩ := bounded_all (f := M_spec_l18RatesL1 xs cap) xs (fun t => wi t 1 cap) (fun i x hx => by
    have hlt := (List.getElem?_eq_some_iff.1 hx).1
    simp only [M_spec_l18RatesL1, geti_nat, hx, Option.bind_some, p_l1In]
    have h1 : decide ((i : Int) < xs.length) = true := by simp [hlt]
    rw [h1]
    by_cases h2 : i ≤ 12
    · have : decide ((i : Int) ≤ 12) = true := by simp; omega
      simp only [cond_true, Option.bind_some, this, h2, if_true]
      rw [w64_eq (by omega) (by omega)]
      rcases bt (wi x 1 cap) with e1 | e1 <;> simp [e1]
    · have : decide ((i : Int) ≤ 12) = false := by simp; omega
      simp [this, h2]) (by simp [M_spec_l18RatesL1]) (by omega)
  rw [key]
  have hd : decide ((xs.length : Int) ≤ 12) = decide (xs.length ≤ 12) := by simp; omega
  rcases hb with ⟨rfl, h2⟩ | ⟨rfl, h2⟩
  · simp [packOk, h2]
  · simp only [Option.bind_some, p_l1In, packOk, hd]
    by_cases h3 : xs.length ≤ 12
    · rw [h2 (by omega)]; cases wi cap 1 10000 <;> simp [h3]
    · cases wi cap 1 10000 <;> simp [h3]
def nums (xs : List Int) : List Int := xs.foldl (fun (a : List Int) _ => a ++ [(a.length : Int)]) []
theorem nums_ok (xs : List Int) : (nums xs).length = xs.length ∧ ∀ y ∈ nums xs, 0 ≤ y ∧ y < xs.length := by
  have gen : ∀ (xs a : List Int), (∀ y ∈ a, 0 ≤ y ∧ y < a.length) → (xs.foldl (fun (a : List Int) _ => a ++ [(a.length : Int)]) a).length = a.length + xs.length ∧ ∀ y ∈ xs.foldl (fun (a : List Int) _ => a ++ [(a.length : Int)]) a, 0 ≤ y ∧ y < ((a.length + xs.length : Nat) : Int) := by
    intro xs
    induction xs with
    | nil => intro a h; exact ⟨rfl, by simpa using h⟩
    | cons x xs ih =>
      intro a h
      have := ih (a ++ [(a.length : Int)]) (fun y hy => by
        rw [List.length_append]
        rcases List.mem_append.1 hy with h1 | h1
        · have := h y h1; simp; omega
        · rw [List.mem_singleton] at h1; subst h1; simp; omega)
      simp only [List.foldl_cons]
      refine ⟨by rw [this.1]; simp; omega, fun y hy => ?_⟩
      have h2 := this.2 y hy
      simp only [List.length_append, List.length_cons, List.length_nil] at h2 ⊢
      omega
  have := gen xs [] (by simp)
  simp only [List.length_nil, Nat.zero_add] at this
  exact this
theorem p_numbered (xs : List Int) (hl : xs.length ≤ 12) : M_impl_numbered (xs.length : Int) = some (nums xs) := by
  unfold M_impl_numbered
  have key := iter_fold (f := M_impl_numberedL1 (xs.length : Int)) xs (fun i (a : List Int) => ((i : Int), a)) (fun (a : List Int) _ => a ++ [(a.length : Int)]) id (fun i a => a.length = i) (fun i a x hx hI => by
    have hlt := (List.getElem?_eq_some_iff.1 hx).1
    have h1 : decide ((i : Int) < (xs.length : Int)) = true := by simp [hlt]
    refine ⟨by simp [hI], ?_⟩
    simp only [M_impl_numberedL1, h1, cond_true, bnd]
    rw [grd_t (by omega), w64_eq (by omega) (by omega), hI]
    rfl) (fun a _ => by simp [M_impl_numberedL1]) [] rfl (by omega)
  rw [show iter (M_impl_numberedL1 (xs.length : Int)) N0 (0, []) = _ from key]; rfl
theorem iter_find {α : Type} {f : Int → Option (Int ⊕ Int)} (xs : List α) (p : α → Bool) (h1 : ∀ (i : Nat) x, xs[i]? = some x → f i = some (if p x then .inr (i : Int) else .inl ((i + 1 : Nat) : Int)))
    (h2 : f xs.length = some (.inr (xs.length : Int))) (hl : xs.length < 18446744073709551615) : iter f N0 0 = some ((xs.findIdx p : Nat) : Int) := by
  have key := iter_list (f := f) xs (fun i (_ : Unit) => (i : Int)) (fun i x _ => if p x then .inr (i : Int) else .inl ()) (fun _ => (xs.length : Int)) (fun _ _ => True)
    (fun i a x hx _ => by
      rcases bt (p x) with h | h
      · exact .inr ⟨(i : Int), by simp [h], by rw [h1 i x hx, h]; simp⟩
      · exact .inl ⟨(), by simp [h], trivial, by rw [h1 i x hx, h]; simp⟩) (fun a _ => h2) () trivial hl
  refine key.trans ?_
  have gen : ∀ (ys : List α) (i : Nat), i + ys.length = xs.length → walkL (fun i x (_ : Unit) => if p x then Sum.inr (i : Int) else .inl ()) (fun _ => (xs.length : Int)) i ys () = ((i + ys.findIdx p : Nat) : Int) := by
    intro ys
    induction ys with
    | nil => intro i hi; simp [walkL] at hi ⊢; omega
    | cons y ys ih =>
      intro i hi
      rcases bt (p y) with h | h
      · simp [walkL, h, List.findIdx_cons]
      · simp only [walkL, h, Bool.false_eq_true, if_false, List.findIdx_cons, cond_false]
        rw [ih (i + 1) (by simp at hi; omega)]
        congr 1; omega
  rw [gen xs 0 (by simp)]; simp
theorem p_IndexAt (xs : List Int) (f : Int → Option Bool) (p : Int → Bool) (hf : ∀ x ∈ xs, f x = some (p x)) (hl : xs.length < 2 ^ 62) : M_slices_IndexFunc_Lint_int xs f = some (if xs.findIdx p < xs.length then ((xs.findIdx p : Nat) : Int) else -1) := by
  unfold M_slices_IndexFunc_Lint_int
  have key := iter_list (f := M_slices_IndexFunc_Lint_intL1 xs f) xs (fun i (_ : Unit) => (i : Int)) (fun i x _ => if p x then .inr (.inr (i : Int)) else .inl ()) (fun _ => .inl ()) (fun _ _ => True)
    (fun i a x hx _ => by
      have hlt := (List.getElem?_eq_some_iff.1 hx).1
      have h1 : decide ((i : Int) < xs.length) = true := by simp [hlt]
      have e : M_slices_IndexFunc_Lint_intL1 xs f (i : Int) = some (if p x then .inr (.inr (i : Int)) else .inl ((i + 1 : Nat) : Int)) := by
        simp only [M_slices_IndexFunc_Lint_intL1, h1, cond_true, geti_nat, hx, Option.bind_some, hf x (List.mem_of_getElem? hx)]
        rw [w64_eq (by omega) (by omega)]
        rcases bt (p x) with h | h <;> simp [h]
      rcases bt (p x) with h | h
      · exact .inr ⟨.inr (i : Int), by simp [h], by rw [e, h]; simp⟩
      · exact .inl ⟨(), by simp [h], trivial, by rw [e, h]; simp⟩) (fun a _ => by simp [M_slices_IndexFunc_Lint_intL1]) () trivial (by omega)
  rw [show iter (M_slices_IndexFunc_Lint_intL1 xs f) N0 0 = _ from key]
  have gen : ∀ (ys : List Int) (i : Nat), walkL (fun i x (_ : Unit) => if p x then Sum.inr (Sum.inr (i : Int)) else .inl ()) (fun _ => (Sum.inl () : Unit ⊕ Int)) i ys () = if ys.findIdx p < ys.length then .inr ((i + ys.findIdx p : Nat) : Int) else .inl () := by
    intro ys
    induction ys with
    | nil => intro i; simp [walkL]
    | cons y ys ih =>
      intro i
      rcases bt (p y) with h | h
      · simp [walkL, h, List.findIdx_cons]
      · simp only [walkL, h, Bool.false_eq_true, if_false, List.findIdx_cons, cond_false, List.length_cons]
        rw [ih (i + 1)]
        by_cases e : ys.findIdx p < ys.length
        · rw [if_pos e, if_pos (by omega)]; congr 2; omega
        · rw [if_neg e, if_neg (by omega)]
  rw [gen xs 0]
  by_cases e : xs.findIdx p < xs.length <;> simp [e]
end Vs

namespace Vs
open Go
def fitAt (rooms : List Int) (r : Int) : Nat := rooms.findIdx fun x => decide (r ≤ x)
def room1 (cap : Int) (rooms : List Int) (r : Int) : List Int := if fitAt rooms r = rooms.length then rooms ++ [cap] else rooms
def pstep (rates : List Int) (cap : Int) (a : List Int × List Int) (y : Int) : List Int × List Int :=
  let r := rates.getD y.toNat 0
  (a.1.set y.toNat (fitAt a.2 r : Int), (room1 cap a.2 r).set (fitAt a.2 r) (IntKind.wrap .i64 ((room1 cap a.2 r).getD (fitAt a.2 r) 0 - r)))
theorem fitAt_le (rooms : List Int) (r : Int) : fitAt rooms r ≤ rooms.length := List.findIdx_le_length
theorem fitAt_lt (cap : Int) (rooms : List Int) (r : Int) : fitAt rooms r < (room1 cap rooms r).length := by
  have := fitAt_le rooms r
  unfold room1
  split
  · simp; omega
  · omega
theorem room1_len (cap : Int) (rooms : List Int) (r : Int) : (room1 cap rooms r).length ≤ rooms.length + 1 := by
  unfold room1
  split
  · simp
  · omega
theorem get_nat {l : List Int} {i : Nat} (h : i < l.length) : l[i]? = some (l.getD i 0) := by
  rw [List.getD_eq_getElem?_getD, List.getElem?_eq_getElem h]; rfl
theorem geti_at {l : List Int} {y : Int} (h0 : 0 ≤ y) (h : y < l.length) : geti l y = some (l.getD y.toNat 0) := by
  obtain ⟨n, rfl⟩ := Int.eq_ofNat_of_zero_le h0
  rw [geti_nat]
  exact get_nat (by omega)
def packR (rates : List Int) (cap : Int) (ord : List Int) : List Int × List Int := ord.foldl (pstep rates cap) (List.replicate rates.length 0, [])
theorem packR_len (rates : List Int) (cap : Int) (ord : List Int) : (packR rates cap ord).1.length = rates.length := by
  have gen : ∀ (ord : List Int) (a : List Int × List Int), (ord.foldl (pstep rates cap) a).1.length = a.1.length := by
    intro ord
    induction ord with
    | nil => intro a; rfl
    | cons y ys ih => intro a; rw [List.foldl_cons, ih]; simp [pstep]
  unfold packR
  rw [gen]; simp
theorem p_l18Pack (rates ord : List Int) (cap : Int) (hr : rates.length ≤ 12) (ho : ord.length ≤ 12) (hv : ∀ y ∈ ord, 0 ≤ y ∧ y < rates.length) : M_spec_l18Pack rates ord cap = some ((packR rates cap ord).1, ((packR rates cap ord).2.length : Int)) := by
  unfold M_spec_l18Pack
  rw [grd_t (by omega)]
  simp only [Option.bind_some, bnd, Int.toNat_natCast]
  have key := iter_fold (f := M_spec_l18PackL1 rates ord cap) ord (fun i (a : List Int × List Int) => ((i : Int), a)) (pstep rates cap) id (fun i a => a.1.length = rates.length ∧ a.2.length ≤ i) (fun i a y hy hI => by
    have hlt := (List.getElem?_eq_some_iff.1 hy).1
    have h1 : decide ((i : Int) < ord.length) = true := by simp [hlt]
    obtain ⟨y0, y1⟩ := hv y (List.mem_of_getElem? hy)
    have hlen : (room1 cap a.2 (rates.getD y.toNat 0)).length ≤ a.2.length + 1 := room1_len ..
    refine ⟨⟨by simp [pstep, hI.1], by simp only [pstep, List.length_set]; omega⟩, ?_⟩
    have hin : iter (M_spec_l18PackL2 ((i : Int), a) (rates.getD y.toNat 0)) N0 0 = some ((fitAt a.2 (rates.getD y.toNat 0) : Nat) : Int) := by
      refine iter_find a.2 _ (fun j x hx => ?_) (by simp [M_spec_l18PackL2]) (by omega)
      have hj := (List.getElem?_eq_some_iff.1 hx).1
      have j1 : decide ((j : Int) < a.2.length) = true := by simp [hj]
      simp only [M_spec_l18PackL2, j1, cond_true, Int.toNat_natCast, hx, Option.bind_some]
      rw [grd_t ⟨by omega, by omega⟩, w64_eq (by omega) (by omega)]
      by_cases e : x < rates.getD y.toNat 0
      · have e2 : ¬ rates.getD y.toNat 0 ≤ x := by omega
        simp only [Option.bind_some, e, e2, decide_true, decide_false, cond_true, Bool.false_eq_true, if_false]; rfl
      · have e2 : rates.getD y.toNat 0 ≤ x := by omega
        simp only [Option.bind_some, e, e2, decide_true, decide_false, cond_false, if_true]
    simp only [M_spec_l18PackL1, h1, cond_true, geti_nat, hy, Option.bind_some, geti_at y0 y1, hin]
    have hc : (cond (((fitAt a.2 (rates.getD y.toNat 0) : Nat) : Int) == (a.2.length : Int)) (bnd ([cap]) fun lZ15 => (grd ((a.2.length + 1) * 8 ≤ 140737488355328)).bind fun uZ18 => bnd (a.2 ++ lZ15) fun lZ19 => some lZ19) (some a.2) : Option (List Int)) = some (room1 cap a.2 (rates.getD y.toNat 0)) := by
      unfold room1
      by_cases e : fitAt a.2 (rates.getD y.toNat 0) = a.2.length
      · have : (((fitAt a.2 (rates.getD y.toNat 0) : Nat) : Int) == (a.2.length : Int)) = true := beq_iff_eq.2 (by rw [e])
        rw [this, if_pos e]
        simp only [cond_true, bnd]
        rw [grd_t (by omega)]; rfl
      · have : (((fitAt a.2 (rates.getD y.toNat 0) : Nat) : Int) == (a.2.length : Int)) = false := beq_eq_false_iff_ne.2 (by omega)
        rw [this, if_neg e]; rfl
    have hfl := fitAt_lt cap a.2 (rates.getD y.toNat 0)
    rw [hc]
    simp only [Option.bind_some, bnd, Int.toNat_natCast]
    rw [grd_t ⟨by omega, by omega⟩, get_nat hfl]
    simp only [Option.bind_some]
    rw [grd_t ⟨by omega, by rw [hI.1]; omega⟩, get_nat (l := a.1) (i := y.toNat) (by rw [hI.1]; omega), w64_eq (n := (i : Int) + 1) (by omega) (by omega)]
    rfl) (fun a _ => by simp [M_spec_l18PackL1]) (List.replicate rates.length 0, []) ⟨by simp, by simp⟩ (by omega)
  rw [show iter (M_spec_l18PackL1 rates ord cap) N0 (0, List.replicate rates.length 0, []) = _ from key]
  rfl
theorem p_packed (rates ord : List Int) (cap : Int) (hr : rates.length ≤ 12) (ho : ord.length ≤ 12) (hv : ∀ y ∈ ord, 0 ≤ y ∧ y < rates.length) : M_impl_packed rates cap ord = some (packR rates cap ord).1 := by
  unfold M_impl_packed
  rw [grd_t (by omega)]
  simp only [Option.bind_some, bnd, Int.toNat_natCast]
  have key := iter_fold (f := M_impl_packedL1 rates cap ord) ord (fun i (a : List Int × List Int) => ((i : Int), a)) (pstep rates cap) (fun a => a.1) (fun i a => a.1.length = rates.length ∧ a.2.length ≤ i) (fun i a y hy hI => by
    have hlt := (List.getElem?_eq_some_iff.1 hy).1
    have h1 : decide ((i : Int) < ord.length) = true := by simp [hlt]
    obtain ⟨y0, y1⟩ := hv y (List.mem_of_getElem? hy)
    have hlen : (room1 cap a.2 (rates.getD y.toNat 0)).length ≤ a.2.length + 1 := room1_len ..
    refine ⟨⟨by simp [pstep, hI.1], by simp only [pstep, List.length_set]; omega⟩, ?_⟩
    have hin := p_IndexAt a.2 (fun x0 => M_impl_packed_c1 x0 rates y) (fun x => decide (rates.getD y.toNat 0 ≤ x)) (fun x _ => by simp only [M_impl_packed_c1, geti_at y0 y1, Option.bind_some]) (by omega)
    simp only [M_impl_packedL1, h1, cond_true, geti_nat, hy, Option.bind_some, hin]
    have hc : (cond (decide ((if a.2.findIdx (fun x => decide (rates.getD y.toNat 0 ≤ x)) < a.2.length then ((a.2.findIdx (fun x => decide (rates.getD y.toNat 0 ≤ x)) : Nat) : Int) else -1) < 0)) (bnd ([cap]) fun lZ9 => (grd ((a.2.length + 1) * 8 ≤ 140737488355328)).bind fun uZ12 => bnd (a.2 ++ lZ9) fun lZ13 => some ((a.2.length : Int), lZ13)) (some ((if a.2.findIdx (fun x => decide (rates.getD y.toNat 0 ≤ x)) < a.2.length then ((a.2.findIdx (fun x => decide (rates.getD y.toNat 0 ≤ x)) : Nat) : Int) else -1), a.2)) : Option (Int × List Int)) = some (((fitAt a.2 (rates.getD y.toNat 0) : Nat) : Int), room1 cap a.2 (rates.getD y.toNat 0)) := by
      have hle := fitAt_le a.2 (rates.getD y.toNat 0)
      unfold room1
      unfold fitAt at hle ⊢
      by_cases e : a.2.findIdx (fun x => decide (rates.getD y.toNat 0 ≤ x)) < a.2.length
      · rw [if_pos e, if_neg (by omega)]
        have : decide (((a.2.findIdx (fun x => decide (rates.getD y.toNat 0 ≤ x)) : Nat) : Int) < 0) = false := by simp
        rw [this]; rfl
      · have e2 : a.2.findIdx (fun x => decide (rates.getD y.toNat 0 ≤ x)) = a.2.length := by omega
        rw [if_neg e, if_pos e2, e2]
        simp only [bnd]
        rw [grd_t (by omega)]; rfl
    have hfl := fitAt_lt cap a.2 (rates.getD y.toNat 0)
    rw [hc]
    simp only [Option.bind_some, bnd, Int.toNat_natCast, geti_at y0 y1]
    rw [grd_t ⟨by omega, by omega⟩, get_nat hfl]
    simp only [Option.bind_some]
    rw [grd_t ⟨by omega, by rw [hI.1]; omega⟩, get_nat (l := a.1) (i := y.toNat) (by rw [hI.1]; omega), w64_eq (n := (i : Int) + 1) (by omega) (by omega)]
    rfl) (fun a _ => by simp [M_impl_packedL1]) (List.replicate rates.length 0, []) ⟨by simp, by simp⟩ (by omega)
  rw [show iter (M_impl_packedL1 rates cap ord) N0 (0, List.replicate rates.length 0, []) = _ from key]
  rfl
end Vs

namespace Vs
open Go
def rk (rates : List Int) (x : Int) : Int := rates.getD x.toNat 0
def atp (rates pre : List Int) (x : Int) : Nat → Nat
  | 0 => 0
  | k + 1 => if rk rates (pre.getD k 0) < rk rates x then atp rates pre x k else k + 1
theorem atp_le (rates pre : List Int) (x : Int) : ∀ k, atp rates pre x k ≤ k
  | 0 => Nat.le_refl _
  | k + 1 => by
    simp only [atp]
    split
    · have := atp_le rates pre x k; omega
    · exact Nat.le_refl _
def insAt (rates pre : List Int) (x : Int) : List Int := pre.take (atp rates pre x pre.length) ++ x :: pre.drop (atp rates pre x pre.length)
theorem insAt_len (rates pre : List Int) (x : Int) : (insAt rates pre x).length = pre.length + 1 := by
  have := atp_le rates pre x pre.length
  simp [insAt]; omega
theorem insAt_mem {rates pre : List Int} {x y : Int} (h : y ∈ insAt rates pre x) : y = x ∨ y ∈ pre := by
  simp only [insAt, List.mem_append, List.mem_cons] at h
  rcases h with h | h | h
  · exact .inr (List.mem_of_mem_take h)
  · exact .inl h
  · exact .inr (List.mem_of_mem_drop h)
def Val (n : Nat) (a : List Int) : Prop := ∀ y ∈ a, 0 ≤ y ∧ y < (n : Int)
theorem insAt_val {n : Nat} {rates pre : List Int} {x : Int} (h : Val n pre) (h0 : 0 ≤ x) (h1 : x < (n : Int)) : Val n (insAt rates pre x) := by
  intro y hy
  rcases insAt_mem hy with rfl | hy
  · exact ⟨h0, h1⟩
  · exact h y hy
def dord (rates : List Int) (m : Nat) : List Int := (List.range m).foldl (fun a _ => insAt rates a (a.length : Int)) []
theorem dord_ok (rates : List Int) (n : Nat) : ∀ m, m ≤ n → (dord rates m).length = m ∧ Val n (dord rates m)
  | 0, _ => ⟨rfl, fun y hy => by simp [dord] at hy⟩
  | m + 1, h => by
    obtain ⟨h1, h2⟩ := dord_ok rates n m (by omega)
    have e : dord rates (m + 1) = insAt rates (dord rates m) ((dord rates m).length : Int) := by simp [dord, List.range_succ]
    rw [e]
    exact ⟨by rw [insAt_len, h1], insAt_val h2 (by omega) (by omega)⟩
theorem atp_spec {rates a : List Int} {x : Int} {s : Int × List Int} (hs : s = (x, a)) (ha : Val rates.length a) (h0 : 0 ≤ x) (h1 : x < (rates.length : Int)) (hl : a.length ≤ 12) : ∀ (k m : Nat), k ≤ a.length → k < m →
    iter (M_spec_l18OrderL2 rates true s) m (k : Int) = some ((atp rates a x k : Nat) : Int) := by
  subst hs
  intro k
  induction k with
  | zero =>
    intro m _ hm
    cases m with
    | zero => omega
    | succ m => simp [iter, M_spec_l18OrderL2, atp]
  | succ k ih =>
    intro m hk hm
    cases m with
    | zero => omega
    | succ m =>
      have hw : IntKind.wrap .i64 (((k + 1 : Nat) : Int) - 1) = (k : Int) := (by
        have e : ((k + 1 : Nat) : Int) - 1 = (k : Int) := by omega
        rw [e]; exact w64_eq (by omega) (by omega))
      have hp : decide ((0 : Int) < ((k + 1 : Nat) : Int)) = true := decide_eq_true (by omega)
      obtain ⟨y0, y1⟩ := ha (a.getD k 0) (by rw [List.getD_eq_getElem?_getD, List.getElem?_eq_getElem (by omega)]; exact List.getElem_mem _)
      simp only [iter, M_spec_l18OrderL2, cond_true, hp, hw, Int.toNat_natCast]
      rw [grd_t ⟨by omega, by omega⟩, get_nat (l := a) (i := k) (by omega)]
      simp only [Option.bind_some, geti_at y0 y1, geti_at h0 h1, atp, rk]
      by_cases e : rates.getD (a.getD k 0).toNat 0 < rates.getD x.toNat 0
      · simp only [e, decide_true, cond_true, if_true]
        exact ih m (by omega) (by omega)
      · simp only [e, decide_false, cond_false, if_false]
theorem p_order (rates : List Int) (hl : rates.length ≤ 12) : M_spec_l18Order rates true = some (dord rates rates.length) := by
  unfold M_spec_l18Order
  have key := iter_fold (f := M_spec_l18OrderL1 rates true) (List.range rates.length) (fun i (a : List Int) => ((i : Int), a)) (fun (a : List Int) _ => insAt rates a (a.length : Int)) id (fun i a => a.length = i ∧ Val rates.length a) (fun i a x hx hI => by
    have hlt := (List.getElem?_eq_some_iff.1 hx).1
    rw [List.length_range] at hlt
    obtain ⟨hI, hV⟩ := hI
    have h1 : decide ((i : Int) < (rates.length : Int)) = true := by simp [hlt]
    refine ⟨⟨by rw [insAt_len, hI], insAt_val hV (by omega) (by omega)⟩, ?_⟩
    have hin := atp_spec (rates := rates) (a := a) (x := (i : Int)) rfl hV (by omega) (by omega) (by omega) a.length N0 (Nat.le_refl _) (N0_lt (by omega))
    have hle := atp_le rates a (i : Int) a.length
    simp only [M_spec_l18OrderL1, h1, cond_true, hin, Option.bind_some, bnd, Int.toNat_natCast]
    rw [grd_t ⟨trivial, by omega, trivial, hle⟩]
    simp only [Option.bind_some, subT_drop, List.drop_zero]
    rw [grd_t (by simp; omega)]
    simp only [Option.bind_some]
    rw [grd_t (by simp; omega)]
    simp only [Option.bind_some]
    rw [grd_t ⟨by omega, trivial, hle, trivial⟩]
    simp only [Option.bind_some]
    rw [grd_t (by simp; omega), w64_eq (by omega) (by omega)]
    have e : (List.drop (atp rates a (i : Int) a.length) a).take (a.length - atp rates a (i : Int) a.length) = List.drop (atp rates a (i : Int) a.length) a := List.take_of_length_le (by simp)
    rw [e]
    simp [insAt, hI]) (fun a _ => by simp [M_spec_l18OrderL1]) [] ⟨rfl, fun y hy => by simp at hy⟩ (by simp; omega)
  rw [show iter (M_spec_l18OrderL1 rates true) N0 (0, []) = _ from key]; rfl
theorem at_mid {A B : List Int} {x : Int} : (A ++ x :: B)[A.length]? = some x := by simp
theorem at_mid1 {A B : List Int} {x y : Int} : (A ++ y :: x :: B)[A.length + 1]? = some x := by simp
theorem set_mid {A B : List Int} {x z : Int} : (A ++ x :: B).set A.length z = A ++ z :: B := by simp
theorem set_mid1 {A B : List Int} {x y z : Int} : (A ++ y :: x :: B).set (A.length + 1) z = A ++ y :: z :: B := by simp
theorem p_cmp {rates : List Int} {x y : Int} (hx0 : 0 ≤ x) (hx : x < rates.length) (hy0 : 0 ≤ y) (hy : y < rates.length) : ∃ r, M_impl_descending_c1 x y rates = some r ∧ decide (r < 0) = decide (rk rates y < rk rates x) := by
  unfold M_impl_descending_c1 M_cmp_Compare_int M_cmp_isNaN_int rk
  simp only [geti_at hx0 hx, geti_at hy0 hy, Option.bind_some, bne_self_eq_false, cond_false]
  by_cases e : rates.getD y.toNat 0 < rates.getD x.toNat 0
  · exact ⟨-1, by simp only [e, decide_true, cond_true, Option.bind_some], by simp only [e, decide_true]; decide⟩
  · by_cases e2 : rates.getD x.toNat 0 < rates.getD y.toNat 0
    · exact ⟨1, by simp only [e, e2, decide_true, decide_false, cond_true, cond_false, Option.bind_some], by simp only [e, decide_false]; decide⟩
    · exact ⟨0, by simp only [e, e2, decide_false, cond_false, Option.bind_some], by simp only [e, decide_false]; decide⟩
theorem inner {rates pre T : List Int} {x : Int} (hp : Val rates.length pre) (h0 : 0 ≤ x) (h1 : x < (rates.length : Int)) (hl : rates.length ≤ 12) (n : Nat) (hn : pre.length < n) (hn2 : n ≤ 12) : ∀ (j m : Nat), j ≤ pre.length → j < m →
    iter (M_slices_insertionSortCmpFunc_intM2L2 0 n 0 rates) m ((j : Int), pre.take j ++ x :: (pre.drop j ++ T)) = some (pre.take (atp rates pre x j) ++ x :: (pre.drop (atp rates pre x j) ++ T)) := by
  intro j
  induction j with
  | zero =>
    intro m _ hm
    cases m with
    | zero => omega
    | succ m => simp [iter, M_slices_insertionSortCmpFunc_intM2L2, atp]
  | succ j ih =>
    intro m hj hm
    cases m with
    | zero => omega
    | succ m =>
      have hw : IntKind.wrap .i64 (((j + 1 : Nat) : Int) - 1) = (j : Int) := (by
        have e : ((j + 1 : Nat) : Int) - 1 = (j : Int) := by omega
        rw [e]; exact w64_eq (by omega) (by omega))
      have hpos : decide ((0 : Int) < ((j + 1 : Nat) : Int)) = true := decide_eq_true (by omega)
      have hy : pre.getD j 0 ∈ pre := by rw [List.getD_eq_getElem?_getD, List.getElem?_eq_getElem (by omega)]; exact List.getElem_mem _
      have e1 : pre.take (j + 1) = pre.take j ++ [pre.getD j 0] := by
        rw [List.take_add_one, get_nat (l := pre) (i := j) (by omega)]; rfl
      have e2 : pre.drop j = pre.getD j 0 :: pre.drop (j + 1) := by
        rw [List.drop_eq_getElem_cons (by omega : j < pre.length), List.getD_eq_getElem?_getD, List.getElem?_eq_getElem (by omega)]; rfl
      have hA : (pre.take j).length = j := by simp; omega
      have hih := ih m (by omega) (by omega)
      rw [e2] at hih
      have eD : pre.take (j + 1) ++ x :: (pre.drop (j + 1) ++ T) = pre.take j ++ pre.getD j 0 :: x :: (pre.drop (j + 1) ++ T) := by rw [e1]; simp
      obtain ⟨y0, y1⟩ := hp _ hy
      obtain ⟨r, hr, hrd⟩ := p_cmp h0 h1 y0 y1
      have eat : atp rates pre x (j + 1) = if rk rates (pre.getD j 0) < rk rates x then atp rates pre x j else j + 1 := rfl
      rw [eat, eD]
      have hih2 := hih
      simp only [List.cons_append] at hih2
      have hfin : ∀ k, k = j + 1 → pre.take k ++ x :: (pre.drop k ++ T) = pre.take j ++ pre.getD j 0 :: x :: (pre.drop (j + 1) ++ T) := fun k hk => by rw [hk]; exact eD
      clear hih eD e2
      generalize pre.drop (j + 1) ++ T = B at *
      generalize pre.take j = A at *
      generalize pre.getD j 0 = y at *
      subst hA
      have g1 : (A ++ y :: x :: B)[A.length + 1]? = some x := at_mid1
      have g2 : (A ++ y :: x :: B)[A.length]? = some y := at_mid
      have g3 : (A ++ y :: x :: B).set (A.length + 1) y = A ++ y :: y :: B := set_mid1
      have g4 : (A ++ y :: y :: B)[A.length]? = some y := at_mid
      have g5 : (A ++ y :: y :: B).set A.length x = A ++ x :: y :: B := set_mid
      simp only [iter, M_slices_insertionSortCmpFunc_intM2L2, hpos, cond_true, hw, Int.toNat_natCast, Nat.zero_add, g1, g2, Option.bind_some, hr]
      rw [grd_t ⟨by omega, by omega⟩]
      simp only [Option.bind_some]
      rw [grd_t ⟨by omega, by omega⟩]
      simp only [Option.bind_some, hrd, g1, g2, bnd, g3, g4, g5]
      by_cases e : rk rates y < rk rates x
      · simp only [e, decide_true, cond_true, if_true]
        exact hih2
      · simp only [e, decide_false, cond_false, if_false]
        rw [hfin _ rfl]
end Vs

namespace Vs
open Go
def tl (n k : Nat) : List Int := (List.range' k (n - k)).map fun j : Nat => (j : Int)
theorem tl_cons {n k : Nat} (h : k < n) : tl n k = (k : Int) :: tl n (k + 1) := by
  unfold tl
  rw [show n - k = (n - (k + 1)) + 1 by omega, List.range'_succ]
  rfl
theorem nums_eq (xs : List Int) : nums xs = tl xs.length 0 := by
  have gen : ∀ (xs : List Int) (k : Nat), xs.foldl (fun (a : List Int) _ => a ++ [(a.length : Int)]) ((List.range k).map fun j : Nat => (j : Int)) = (List.range (k + xs.length)).map fun j : Nat => (j : Int) := by
    intro xs
    induction xs with
    | nil => intro k; rfl
    | cons x xs ih =>
      intro k
      have := ih (k + 1)
      rw [List.range_succ, List.map_append] at this
      simp only [List.foldl_cons, List.length_map, List.length_range, List.length_cons]
      rw [show k + (xs.length + 1) = k + 1 + xs.length by omega]
      exact this
  have := gen xs 0
  simp only [List.range_zero, List.map_nil, Nat.zero_add] at this
  unfold nums tl
  rw [this, List.range_eq_range', Nat.sub_zero]
theorem p_sort (rates : List Int) (hl : rates.length ≤ 12) : M_slices_insertionSortCmpFunc_intM2 0 rates.length 0 (rates.length : Int) (nums rates) rates = some (dord rates rates.length, rates) := by
  unfold M_slices_insertionSortCmpFunc_intM2
  rw [show IntKind.wrap .i64 ((0 : Int) + 1) = 1 from by decide]
  rcases Nat.eq_zero_or_pos rates.length with h0 | h0
  · have hr : rates = [] := List.eq_nil_of_length_eq_zero h0
    subst hr
    rw [show N0 = (N0 - 1) + 1 from rfl]
    simp [iter, M_slices_insertionSortCmpFunc_intM2L1, nums, dord]
  · have key := iter_fold (f := M_slices_insertionSortCmpFunc_intM2L1 0 rates.length 0 (rates.length : Int) rates) (List.range (rates.length - 1)) (fun i (a : List Int) => (((i + 1 : Nat) : Int), a ++ tl rates.length (i + 1))) (fun (a : List Int) _ => insAt rates a (a.length : Int)) id (fun i a => a.length = i + 1 ∧ Val rates.length a) (fun i a x hx hI => by
      have hlt := (List.getElem?_eq_some_iff.1 hx).1
      rw [List.length_range] at hlt
      obtain ⟨hI, hV⟩ := hI
      have h1 : decide (((i + 1 : Nat) : Int) < (rates.length : Int)) = true := decide_eq_true (by omega)
      refine ⟨⟨by rw [insAt_len, hI], insAt_val hV (by omega) (by omega)⟩, ?_⟩
      have hin := inner (rates := rates) (pre := a) (T := tl rates.length (i + 1 + 1)) (x := (a.length : Int)) hV (by omega) (by omega) hl rates.length (by omega) hl a.length N0 (Nat.le_refl _) (N0_lt (by omega))
      rw [List.take_length, List.drop_length, List.nil_append] at hin
      have ed : a ++ tl rates.length (i + 1) = a ++ (a.length : Int) :: tl rates.length (i + 1 + 1) := by rw [tl_cons (by omega : i + 1 < rates.length), hI]
      simp only [M_slices_insertionSortCmpFunc_intM2L1, h1, cond_true]
      rw [ed, show (((i + 1 : Nat) : Int)) = (a.length : Int) by rw [hI], hin]
      simp only [Option.bind_some]
      rw [w64_eq (by omega) (by omega)]
      simp [insAt, hI]) (fun a _ => by
        have e : decide ((((List.range (rates.length - 1)).length + 1 : Nat) : Int) < (rates.length : Int)) = false := by rw [List.length_range]; exact decide_eq_false (by omega)
        have e2 : tl rates.length ((List.range (rates.length - 1)).length + 1) = [] := by
          rw [List.length_range, show rates.length - 1 + 1 = rates.length by omega]; simp [tl]
        simp only [M_slices_insertionSortCmpFunc_intM2L1, e, cond_false, e2, List.append_nil]; rfl) [0] ⟨rfl, fun y hy => by rw [List.mem_singleton] at hy; subst hy; omega⟩ (by simp; omega)
    have en : nums rates = [0] ++ tl rates.length (0 + 1) := by rw [nums_eq, tl_cons h0]; rfl
    rw [en]
    have e1 : (((0 + 1 : Nat) : Int)) = 1 := rfl
    rw [e1] at key
    rw [key]
    simp only [Option.bind_some, id]
    have ef : (List.range (rates.length - 1)).foldl (fun (a : List Int) _ => insAt rates a (a.length : Int)) [0] = dord rates rates.length := by
      have gen : ∀ m, (List.range m).foldl (fun (a : List Int) (_ : Nat) => insAt rates a (a.length : Int)) [0] = dord rates (m + 1) := by
        intro m
        induction m with
        | zero => rfl
        | succ m ih => rw [List.range_succ, List.foldl_append, ih]; simp [dord, List.range_succ]
      rw [gen, show rates.length - 1 + 1 = rates.length by omega]
    rw [ef]
theorem p_stable (rates : List Int) (hl : rates.length ≤ 12) : M_slices_SortStableFunc_Lint_intM1 (nums rates) rates = some (dord rates rates.length, rates) := by
  unfold M_slices_SortStableFunc_Lint_intM1 M_slices_stableCmpFunc_intM1
  have hn := (nums_ok rates).1
  rw [hn, show N0 = (N0 - 1) + 1 from rfl]
  have e : decide ((20 : Int) ≤ (rates.length : Int)) = false := decide_eq_false (by omega)
  have e2 : decide ((20 : Int) < (rates.length : Int)) = false := decide_eq_false (by omega)
  simp only [iter, M_slices_stableCmpFunc_intM1L1, e, cond_false, Option.bind_some, p_sort rates hl, M_slices_stableCmpFunc_intM1L2, e2]
theorem p_desc (rates : List Int) (cap : Int) (hl : rates.length ≤ 12) : M_impl_descending rates cap = some (packR rates cap (dord rates rates.length)).1 := by
  unfold M_impl_descending
  obtain ⟨d1, d2⟩ := dord_ok rates rates.length rates.length (Nat.le_refl _)
  have hn := (nums_ok rates).1
  have hs : subT (dord rates rates.length) 0 (nums rates).length = dord rates rates.length := by rw [hn]; simp [subT, d1]
  simp only [p_numbered rates hl, Option.bind_some, p_stable rates hl, bnd, hs, p_packed rates (dord rates rates.length) cap hl (by omega) d2]
def pdR (xs : List Int) (cap : Int) : List Int × Bool := if packOk xs cap then ((packR xs cap (dord xs xs.length)).1, true) else ([], false)
theorem packOk_len {xs : List Int} {cap : Int} (h : packOk xs cap = true) : xs.length ≤ 12 := by
  simp only [packOk, Bool.and_eq_true, decide_eq_true_eq] at h; exact h.1.2
theorem p_spec_PackDescending (xs : List Int) (cap : Int) (hl : xs.length < 2 ^ 62) : M_spec_PackDescending xs cap = some (pdR xs cap) := by
  unfold M_spec_PackDescending pdR
  rw [p_l18Rates xs cap hl]
  rcases bt (packOk xs cap) with e | e
  · have hx := packOk_len e
    obtain ⟨d1, d2⟩ := dord_ok xs xs.length xs.length (Nat.le_refl _)
    simp only [e, Option.bind_some, Bool.not_true, cond_false, p_order xs hx, p_l18Pack xs (dord xs xs.length) cap hx (by omega) d2, if_true]
  · simp [e]
theorem p_impl_PackDescending (xs : List Int) (cap : Int) (hl : xs.length < 2 ^ 62) : M_impl_PackDescending xs cap = some (pdR xs cap) := by
  unfold M_impl_PackDescending pdR
  rw [p_isPacking xs cap hl]
  rcases bt (packOk xs cap) with e | e
  · simp only [e, Option.bind_some, Bool.not_true, cond_false, p_desc xs cap (packOk_len e), if_true]
  · simp [e]
theorem pdR_len (xs : List Int) (cap : Int) : (pdR xs cap).1.length ≤ 12 := by
  unfold pdR
  split
  · rename_i h; rw [packR_len]; exact packOk_len h
  · simp
theorem p_FnExactPackDescending (xs : List Int) (cap : Int) (hl : xs.length ≤ 9223372036854775807) : M_laws_FnExactPackDescending xs cap = some true := by
  unfold M_laws_FnExactPackDescending
  rcases bt (decide (1048576 < (xs.length : Int))) with e0 | e0
  · rw [e0]; rfl
  have hll : xs.length ≤ 1048576 := by simp at e0; omega
  have hr := pdR_len xs cap
  have hm := p_markIntS (pdR xs cap).1 1 (by omega) (by omega) (by omega)
  have hh := p_heldIntS (pdR xs cap).1.length 1 (by omega) (by omega) (by omega)
  have hk := p_markIntS xs 1 (by omega) (by omega) hll
  have hsub : subT ((List.range (pdR xs cap).1.length).map fun j : Nat => (1 : Int) + (j : Int)) 0 (pdR xs cap).1.length = (List.range (pdR xs cap).1.length).map fun j : Nat => (1 : Int) + (j : Int) := by
    simp [subT]
  have hkn : decide (1 + (xs.length : Int) < 0) = false := by simp; omega
  have hpn : decide ((1 : Int) + ((pdR xs cap).1.length : Int) < 0) = false := by simp; omega
  simp only [e0, cond_false, p_toIntS xs hll, Option.bind_some, p_spec_PackDescending xs cap (show xs.length < 2 ^ 62 by omega), p_impl_PackDescending xs cap (show xs.length < 2 ^ 62 by omega), p_eqIntS xs xs hll,
    p_eqIntS _ _ (show (pdR xs cap).1.length ≤ 1048576 by omega), hk, hm, hsub, hh, bnd, hkn, hpn]
  simp
end Vs

namespace Vs
open Go
theorem exists_map {α : Type} (e : α → AV) (p : α → Prop) : ∀ (xs : List AV), (∀ x ∈ xs, ∃ t, x = e t ∧ p t) → ∃ ts : List α, xs = ts.map e ∧ ∀ t ∈ ts, p t
  | [], _ => ⟨[], rfl, by simp⟩
  | x :: xs, h => by
    obtain ⟨t, h1, h2⟩ := h x (by simp)
    obtain ⟨ts, h3, h4⟩ := exists_map e p xs fun y hy => h y (by simp [hy])
    exact ⟨t :: ts, by simp [h1, h3], fun s hs => by
      rcases List.mem_cons.1 hs with rfl | hs
      · exact h2
      · exact h4 s hs⟩
theorem FitsL_cons {l : Lf} {ls : List Lf} : ∀ {al : List AV}, FitsL (l :: ls) al → ∃ a al', al = a :: al' ∧ Fits l a ∧ FitsL ls al'
  | a :: al, h => ⟨a, al, rfl, h.1, h.2⟩
  | [], h => h.elim
theorem FitsL_nil : ∀ {al : List AV}, FitsL [] al → al = []
  | [], _ => rfl
  | _ :: _, h => h.elim
theorem i64_of_wf {n : Int} (h : (Lit.int .i64 n).wf = true) : I64 n := by
  simpa [Lit.wf, IntKind.min, IntKind.max, IntKind.signed, IntKind.bits, I64] using h
theorem Fits_i64 {a : AV} (h : Fits (.int .i64) a) : ∃ n, a = .i n ∧ I64 n := by
  obtain ⟨n, h1, h2⟩ := h
  exact ⟨n, h1, i64_of_wf h2⟩
theorem rec3 {α : Type} (e : α → AV) (mk : Int → Int → Int → α) (he : ∀ a b c, e (mk a b c) = .agg [.i a, .i b, .i c]) {y : AV} (h : FitsA (false, [.sl true [.int .i64, .int .i64, .int .i64]]) y) : ∃ ts : List α, y = .lst .o 3 (ts.map e) ∧ ts.length ≤ maxLen := by
  obtain ⟨⟨xs, rfl, hl, hx⟩, _⟩ := h.2 rfl
  obtain ⟨ts, rfl, _⟩ := exists_map e (fun _ => True) xs fun x hxm => by
    obtain ⟨cs, rfl, hc⟩ := (hx x hxm).1 rfl
    obtain ⟨_, _, rfl, f1, hc⟩ := FitsL_cons hc
    obtain ⟨_, _, rfl, f2, hc⟩ := FitsL_cons hc
    obtain ⟨_, _, rfl, f3, hc⟩ := FitsL_cons hc
    obtain rfl := FitsL_nil hc
    obtain ⟨a, rfl, _⟩ := Fits_i64 f1
    obtain ⟨b, rfl, _⟩ := Fits_i64 f2
    obtain ⟨c, rfl, _⟩ := Fits_i64 f3
    exact ⟨mk a b c, (he a b c).symm, trivial⟩
  rw [List.length_map] at hl
  exact ⟨ts, rfl, hl⟩
theorem ints {y : AV} (h : FitsA (false, [.sl false [.int .i64]]) y) : ∃ ts : List Int, y = .lst .o 1 (ts.map AV.i) ∧ ts.length ≤ maxLen := by
  obtain ⟨⟨xs, rfl, hl, hx⟩, _⟩ := h.2 rfl
  obtain ⟨ts, rfl, _⟩ := exists_map AV.i (fun _ => True) xs fun x hxm => by
    obtain ⟨a, rfl, _⟩ := Fits_i64 ((hx x hxm).2 rfl).1
    exact ⟨a, rfl, trivial⟩
  rw [List.length_map] at hl
  exact ⟨ts, rfl, hl⟩
theorem one3 {α : Type} (e : α → AV) (mk : Int → Int → Int → α) (he : ∀ a b c, e (mk a b c) = .agg [.i a, .i b, .i c]) {y : AV} (h : FitsA (true, [.int .i64, .int .i64, .int .i64]) y) : ∃ t : α, y = e t := by
  obtain ⟨cs, rfl, hc⟩ := h.1 rfl
  obtain ⟨_, _, rfl, f1, hc⟩ := FitsL_cons hc
  obtain ⟨_, _, rfl, f2, hc⟩ := FitsL_cons hc
  obtain ⟨_, _, rfl, f3, hc⟩ := FitsL_cons hc
  obtain rfl := FitsL_nil hc
  obtain ⟨a, rfl, _⟩ := Fits_i64 f1
  obtain ⟨b, rfl, _⟩ := Fits_i64 f2
  obtain ⟨c, rfl, _⟩ := Fits_i64 f3
  exact ⟨mk a b c, (he a b c).symm⟩
theorem int1 {y : AV} (h : FitsA (false, [.int .i64]) y) : ∃ n : Int, y = .i n := by
  obtain ⟨⟨n, rfl, _⟩, _⟩ := h.2 rfl
  exact ⟨n, rfl⟩
end Vs

