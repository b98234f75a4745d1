/-
  Part of the proof that the law FnDirect returns true at every input; no condition beside the row's own.
-/
import Derived.Test.YtgbifbhfdjdhbaaFe
import Derived.Test.YtgbifbhfdjdhbaaAa
set_option linter.defProp false
set_option linter.unusedSimpArgs false
set_option linter.unusedVariables false
namespace Vs
open Go
def z_TributaryS (xs : (List TTributary)) : Nat := xs.length
def ok_TributaryS (xs : (List TTributary)) : Prop := xs.length ≤ 9223372036854775807
def z_IntS (xs : (List Int)) : Nat := xs.length
def ok_IntS (xs : (List Int)) : Prop := xs.length ≤ 9223372036854775807
def z_IntSS (xs : (List (List Int))) : Nat := xs.length + (xs.map fun x => z_IntS x).sum
def ok_IntSS (xs : (List (List Int))) : Prop := xs.length ≤ 9223372036854775807 ∧ ∀ x ∈ xs, ok_IntS x
end Vs

namespace Vs
open Go
theorem p_IndexFunc_Tributary (xs : List TTributary) (f : TTributary → Option Bool) (p : TTributary → Bool) (hf : ∀ x, f x = some (p x)) (hl : xs.length < 2 ^ 62) : ∃ r, M_slices_IndexFunc_Tributary xs f = some r ∧ (decide (0 ≤ r) = xs.any p) := by
  obtain ⟨b, key, hb⟩ := iter_index (f := M_slices_IndexFunc_TributaryL1 xs f) xs p (fun i x hx => by
    have hlt := (List.getElem?_eq_some_iff.1 hx).1
    have h1 : decide ((i : Int) < xs.length) = true := by simp [hlt]
    simp only [M_slices_IndexFunc_TributaryL1, h1, cond_true, geti_nat, hx, hf, Option.bind_some]
    rw [w64_eq (by omega) (by omega)]
    rcases bt (p x) with e | e <;> simp [e]) (by simp [M_slices_IndexFunc_TributaryL1]) (by omega)
  unfold M_slices_IndexFunc_Tributary
  rw [key]
  rcases hb with ⟨rfl, h⟩ | ⟨k, rfl, h⟩
  · exact ⟨-1, rfl, by rw [h]; rfl⟩
  · exact ⟨k, rfl, by rw [h]; simp⟩
theorem p_ContainsFunc_Tributary (xs : List TTributary) (f : TTributary → Option Bool) (p : TTributary → Bool) (hf : ∀ x, f x = some (p x)) (hl : xs.length < 2 ^ 62) : M_slices_ContainsFunc_Tributary xs f = some (xs.any p) := by
  unfold M_slices_ContainsFunc_Tributary
  obtain ⟨r, h1, h2⟩ := p_IndexFunc_Tributary xs f p hf hl
  simp [h1, h2]
end Vs

namespace Vs
open Go
def wi (x a b : Int) : Bool := decide (a ≤ x) && decide (x ≤ b)
theorem p_within (x a b : Int) : M_impl_within x a b = some (wi x a b) := by
  unfold M_impl_within wi; by_cases h : a ≤ x <;> simp [h]
theorem p_l1In (x a b : Int) : M_spec_l1In x a b = some (wi x a b) := by
  unfold M_spec_l1In wi; by_cases h : a ≤ x <;> simp [h]
def ends (a b n : Int) : Bool := wi a 0 (IntKind.wrap .i64 (n - 1)) && wi b 0 (IntKind.wrap .i64 (n - 1)) && a != b
theorem p_areEnds (a b n : Int) : M_impl_areEnds a b n = some (ends a b n) := by
  unfold M_impl_areEnds ends; simp only [p_within, Option.bind_some]
  cases wi a 0 (IntKind.wrap .i64 (n - 1)) <;> cases wi b 0 (IntKind.wrap .i64 (n - 1)) <;> simp
theorem p_l18Pair (a b n : Int) : M_spec_l18Pair a b n = some (ends a b n) := by
  unfold M_spec_l18Pair ends; simp only [p_l1In, Option.bind_some]
  cases wi a 0 (IntKind.wrap .i64 (n - 1)) <;> cases wi b 0 (IntKind.wrap .i64 (n - 1)) <;> simp
def trOk (n : Int) (t : TTributary) : Bool := ends t.From t.To n && wi t.Rate 1 1000
theorem p_IsValidTributaries_c1 (t : TTributary) (n : Int) : M_impl_IsValidTributaries_c1 t n = some (!trOk n t) := by
  unfold M_impl_IsValidTributaries_c1 trOk; simp only [p_areEnds, p_within, Option.bind_some]
  cases ends t.From t.To n <;> simp
def tribs (list : List TTributary) (n : Int) : Bool := wi n 2 8 && decide (list.length ≤ 12) && !list.any fun t => !trOk n t
theorem p_impl_IsValidTributaries (xs : List TTributary) (n : Int) (hl : xs.length < 2 ^ 62) : M_impl_IsValidTributaries xs n = some (tribs xs n) := by
  unfold M_impl_IsValidTributaries tribs
  simp only [p_within, Option.bind_some, p_ContainsFunc_Tributary xs (fun x0 => M_impl_IsValidTributaries_c1 x0 n) (fun t => !trOk n t) (fun x => p_IsValidTributaries_c1 x n) hl]
  have : decide ((xs.length : Int) ≤ 12) = decide (xs.length ≤ 12) := by simp; omega
  rw [this]
  cases wi n 2 8 <;> cases decide (xs.length ≤ 12) <;> simp
theorem bounded_all {α : Type} {f : Int → Option (Int ⊕ (Unit ⊕ Bool))} (xs : List α) (p : α → Bool)
    (step : ∀ (i : Nat) x, xs[i]? = some x → f i = some (if i ≤ 12 then (if !p x then .inr (.inr false) else .inl ((i + 1 : Nat) : Int)) else .inr (.inl ())))
    (h2 : f xs.length = some (.inr (.inl ()))) (hl : xs.length < 18446744073709551615) :
    ∃ b, iter f N0 0 = some b ∧ (b = .inr false ∧ (xs.any fun t => !p t) = true ∨ b = .inl () ∧ (xs.length ≤ 13 → (xs.any fun t => !p t) = false)) := by
  have key : iter f N0 0 = some (walkL (fun i x (_ : Unit) => if i ≤ 12 then (if !p x then Sum.inr (Sum.inr false) else .inl ()) else .inr (.inl ())) (fun _ => Sum.inl ()) 0 xs ()) := by
    refine iter_list xs (fun i (_ : Unit) => (i : Int)) _ _ (fun _ _ => True) (fun i a x hx _ => ?_) (fun a _ => h2) () trivial hl
    rw [step i x hx]
    by_cases h2 : i ≤ 12
    · rcases bt (p x) with e | e
      · exact .inl ⟨(), by simp [h2, e], trivial, by simp [h2, e]⟩
      · exact .inr ⟨_, by simp [h2, e]; rfl, by simp [h2, e]⟩
    · exact .inr ⟨_, by simp [h2]; rfl, by simp [h2]⟩
  refine ⟨_, key, ?_⟩
  have gen : ∀ (ys : List α) (i : Nat), walkL (fun i x (_ : Unit) => if i ≤ 12 then (if !p x then Sum.inr (Sum.inr false) else .inl ()) else .inr (.inl ())) (fun _ => (Sum.inl () : Unit ⊕ Bool)) i ys () = .inr false ∧ (ys.any fun t => !p t) = true ∨
      walkL (fun i x (_ : Unit) => if i ≤ 12 then (if !p x then Sum.inr (Sum.inr false) else .inl ()) else .inr (.inl ())) (fun _ => (Sum.inl () : Unit ⊕ Bool)) i ys () = .inl () ∧ (i + ys.length ≤ 13 → (ys.any fun t => !p t) = false) := by
    intro ys
    induction ys with
    | nil => intro i; right; simp [walkL]
    | cons y ys ih =>
      intro i
      simp only [walkL, List.any_cons, List.length_cons]
      by_cases h2 : i ≤ 12
      · rcases bt (p y) with h | h
        · simp only [h2, h, if_true, Bool.not_true, Bool.false_eq_true, if_false, Bool.false_or]
          rcases ih (i + 1) with ⟨a, b⟩ | ⟨a, b⟩
          · exact .inl ⟨a, b⟩
          · exact .inr ⟨a, fun h => b (by omega)⟩
        · left; simp [h2, h]
      · right; simp only [h2, if_false]; exact ⟨trivial, fun h => by omega⟩
  rcases gen xs 0 with h | ⟨h, h'⟩
  · exact .inl h
  · exact .inr ⟨h, fun e => h' (by omega)⟩
theorem p_spec_IsValidTributaries (xs : List TTributary) (n : Int) (hl : xs.length < 2 ^ 62) : M_spec_l18Good xs n = some (tribs xs n) := by
  unfold M_spec_l18Good
  obtain ⟨b, key, hb⟩ := bounded_all (f := M_spec_l18GoodL1 xs n) xs (trOk n) (fun i x hx => by
    have hlt := (List.getElem?_eq_some_iff.1 hx).1
    simp only [M_spec_l18GoodL1, geti_nat, hx, Option.bind_some, p_l18Pair, p_l1In, trOk]
    have h1 : decide ((i : Int) < xs.length) = true := by simp [hlt]
    rw [h1]
    by_cases h2 : i ≤ 12
    · have : decide ((i : Int) ≤ 12) = true := by simp; omega
      simp only [cond_true, Option.bind_some, this, h2, if_true]
      rw [w64_eq (by omega) (by omega)]
      rcases bt (ends x.From x.To n) with e1 | e1 <;> rcases bt (wi x.Rate 1 1000) with e2 | e2 <;> simp [e1, e2]
    · have : decide ((i : Int) ≤ 12) = false := by simp; omega
      simp [this, h2]) (by simp [M_spec_l18GoodL1]) (by omega)
  rw [key]
  have hd : decide ((xs.length : Int) ≤ 12) = decide (xs.length ≤ 12) := by simp; omega
  rcases hb with ⟨rfl, h2⟩ | ⟨rfl, h2⟩
  · simp [tribs, h2]
  · simp only [Option.bind_some, p_l1In, tribs, hd]
    by_cases h3 : xs.length ≤ 12
    · rw [h2 (by omega)]; cases wi n 2 8 <;> simp [h3]
    · cases wi n 2 8 <;> simp [h3]
end Vs

namespace Vs
open Go
theorem p_IndexFunc_Lint_int (xs : List Int) (f : Int → Option Bool) (p : Int → Bool) (hf : ∀ x, f x = some (p x)) (hl : xs.length < 2 ^ 62) : ∃ r, M_slices_IndexFunc_Lint_int xs f = some r ∧ (decide (0 ≤ r) = xs.any p) := by
  obtain ⟨b, key, hb⟩ := iter_index (f := M_slices_IndexFunc_Lint_intL1 xs f) xs p (fun i x hx => by
    have hlt := (List.getElem?_eq_some_iff.1 hx).1
    have h1 : decide ((i : Int) < xs.length) = true := by simp [hlt]
    simp only [M_slices_IndexFunc_Lint_intL1, h1, cond_true, geti_nat, hx, hf, Option.bind_some]
    rw [w64_eq (by omega) (by omega)]
    rcases bt (p x) with e | e <;> simp [e]) (by simp [M_slices_IndexFunc_Lint_intL1]) (by omega)
  unfold M_slices_IndexFunc_Lint_int
  rw [key]
  rcases hb with ⟨rfl, h⟩ | ⟨k, rfl, h⟩
  · exact ⟨-1, rfl, by rw [h]; rfl⟩
  · exact ⟨k, rfl, by rw [h]; simp⟩
end Vs

namespace Vs
open Go
theorem iter_fold {α A S B : Type} {f : S → Option (S ⊕ B)} (xs : List α) (st : Nat → A → S) (g : A → α → A) (fin : A → B) (I : Nat → A → Prop)
    (h1 : ∀ i a x, xs[i]? = some x → I i a → I (i + 1) (g a x) ∧ f (st i a) = some (.inl (st (i + 1) (g a x))))
    (h2 : ∀ a, I xs.length a → f (st xs.length a) = some (.inr (fin a))) (a0 : A) (h0 : I 0 a0) (hl : xs.length < 18446744073709551615) :
    iter f N0 (st 0 a0) = some (fin (xs.foldl g a0)) := by
  rw [iter_list xs st (fun _ x a => .inl (g a x)) fin I (fun i a x hx hI => .inl ⟨g a x, rfl, (h1 i a x hx hI).1, (h1 i a x hx hI).2⟩) h2 a0 h0 hl]
  have gen : ∀ (ys : List α) (i : Nat) (a : A), walkL (fun _ x a => (.inl (g a x) : A ⊕ B)) fin i ys a = fin (ys.foldl g a) := by
    intro ys
    induction ys with
    | nil => intro i a; rfl
    | cons y ys ih => intro i a; exact ih (i + 1) (g a y)
  rw [gen]

def packOk (xs : List Int) (cap : Int) : Bool := wi cap 1 10000 && decide (xs.length ≤ 12) && !xs.any fun t => !wi t 1 cap
def nums (xs : List Int) : List Int := xs.foldl (fun (a : List Int) _ => a ++ [(a.length : Int)]) []
theorem nums_ok (xs : List Int) : (nums xs).length = xs.length ∧ ∀ y ∈ nums xs, 0 ≤ y ∧ y < xs.length := by
  have gen : ∀ (xs a : List Int), (∀ y ∈ a, 0 ≤ y ∧ y < a.length) → (xs.foldl (fun (a : List Int) _ => a ++ [(a.length : Int)]) a).length = a.length + xs.length ∧ ∀ y ∈ xs.foldl (fun (a : List Int) _ => a ++ [(a.length : Int)]) a, 0 ≤ y ∧ y < ((a.length + xs.length : Nat) : Int) := by
    intro xs
    induction xs with
    | nil => intro a h; exact ⟨rfl, by simpa using h⟩
    | cons x xs ih =>
      intro a h
      have := ih (a ++ [(a.length : Int)]) (fun y hy => by
        rw [List.length_append]
        rcases List.mem_append.1 hy with h1 | h1
        · have := h y h1; simp; omega
        · rw [List.mem_singleton] at h1; subst h1; simp; omega)
      simp only [List.foldl_cons]
      refine ⟨by rw [this.1]; simp; omega, fun y hy => ?_⟩
      have h2 := this.2 y hy
      simp only [List.length_append, List.length_cons, List.length_nil] at h2 ⊢
      omega
  have := gen xs [] (by simp)
  simp only [List.length_nil, Nat.zero_add] at this
  exact this
theorem p_numbered (xs : List Int) (hl : xs.length ≤ 12) : M_impl_numbered (xs.length : Int) = some (nums xs) := by
  unfold M_impl_numbered
  have key := iter_fold (f := M_impl_numberedL1 (xs.length : Int)) xs (fun i (a : List Int) => ((i : Int), a)) (fun (a : List Int) _ => a ++ [(a.length : Int)]) id (fun i a => a.length = i) (fun i a x hx hI => by
    have hlt := (List.getElem?_eq_some_iff.1 hx).1
    have h1 : decide ((i : Int) < (xs.length : Int)) = true := by simp [hlt]
    refine ⟨by simp [hI], ?_⟩
    simp only [M_impl_numberedL1, h1, cond_true, bnd]
    rw [grd_t (by omega), w64_eq (by omega) (by omega), hI]
    rfl) (fun a _ => by simp [M_impl_numberedL1]) [] rfl (by omega)
  rw [show iter (M_impl_numberedL1 (xs.length : Int)) N0 (0, []) = _ from key]; rfl
theorem iter_find {α : Type} {f : Int → Option (Int ⊕ Int)} (xs : List α) (p : α → Bool) (h1 : ∀ (i : Nat) x, xs[i]? = some x → f i = some (if p x then .inr (i : Int) else .inl ((i + 1 : Nat) : Int)))
    (h2 : f xs.length = some (.inr (xs.length : Int))) (hl : xs.length < 18446744073709551615) : iter f N0 0 = some ((xs.findIdx p : Nat) : Int) := by
  have key := iter_list (f := f) xs (fun i (_ : Unit) => (i : Int)) (fun i x _ => if p x then .inr (i : Int) else .inl ()) (fun _ => (xs.length : Int)) (fun _ _ => True)
    (fun i a x hx _ => by
      rcases bt (p x) with h | h
      · exact .inr ⟨(i : Int), by simp [h], by rw [h1 i x hx, h]; simp⟩
      · exact .inl ⟨(), by simp [h], trivial, by rw [h1 i x hx, h]; simp⟩) (fun a _ => h2) () trivial hl
  refine key.trans ?_
  have gen : ∀ (ys : List α) (i : Nat), i + ys.length = xs.length → walkL (fun i x (_ : Unit) => if p x then Sum.inr (i : Int) else .inl ()) (fun _ => (xs.length : Int)) i ys () = ((i + ys.findIdx p : Nat) : Int) := by
    intro ys
    induction ys with
    | nil => intro i hi; simp [walkL] at hi ⊢; omega
    | cons y ys ih =>
      intro i hi
      rcases bt (p y) with h | h
      · simp [walkL, h, List.findIdx_cons]
      · simp only [walkL, h, Bool.false_eq_true, if_false, List.findIdx_cons, cond_false]
        rw [ih (i + 1) (by simp at hi; omega)]
        congr 1; omega
  rw [gen xs 0 (by simp)]; simp
theorem p_IndexAt (xs : List Int) (f : Int → Option Bool) (p : Int → Bool) (hf : ∀ x ∈ xs, f x = some (p x)) (hl : xs.length < 2 ^ 62) : M_slices_IndexFunc_Lint_int xs f = some (if xs.findIdx p < xs.length then ((xs.findIdx p : Nat) : Int) else -1) := by
  unfold M_slices_IndexFunc_Lint_int
  have key := iter_list (f := M_slices_IndexFunc_Lint_intL1 xs f) xs (fun i (_ : Unit) => (i : Int)) (fun i x _ => if p x then .inr (.inr (i : Int)) else .inl ()) (fun _ => .inl ()) (fun _ _ => True)
    (fun i a x hx _ => by
      have hlt := (List.getElem?_eq_some_iff.1 hx).1
      have h1 : decide ((i : Int) < xs.length) = true := by simp [hlt]
      have e : M_slices_IndexFunc_Lint_intL1 xs f (i : Int) = some (if p x then .inr (.inr (i : Int)) else .inl ((i + 1 : Nat) : Int)) := by
        simp only [M_slices_IndexFunc_Lint_intL1, h1, cond_true, geti_nat, hx, Option.bind_some, hf x (List.mem_of_getElem? hx)]
        rw [w64_eq (by omega) (by omega)]
        rcases bt (p x) with h | h <;> simp [h]
      rcases bt (p x) with h | h
      · exact .inr ⟨.inr (i : Int), by simp [h], by rw [e, h]; simp⟩
      · exact .inl ⟨(), by simp [h], trivial, by rw [e, h]; simp⟩) (fun a _ => by simp [M_slices_IndexFunc_Lint_intL1]) () trivial (by omega)
  rw [show iter (M_slices_IndexFunc_Lint_intL1 xs f) N0 0 = _ from key]
  have gen : ∀ (ys : List Int) (i : Nat), walkL (fun i x (_ : Unit) => if p x then Sum.inr (Sum.inr (i : Int)) else .inl ()) (fun _ => (Sum.inl () : Unit ⊕ Int)) i ys () = if ys.findIdx p < ys.length then .inr ((i + ys.findIdx p : Nat) : Int) else .inl () := by
    intro ys
    induction ys with
    | nil => intro i; simp [walkL]
    | cons y ys ih =>
      intro i
      rcases bt (p y) with h | h
      · simp [walkL, h, List.findIdx_cons]
      · simp only [walkL, h, Bool.false_eq_true, if_false, List.findIdx_cons, cond_false, List.length_cons]
        rw [ih (i + 1)]
        by_cases e : ys.findIdx p < ys.length
        · rw [if_pos e, if_pos (by omega)]; congr 2; omega
        · rw [if_neg e, if_neg (by omega)]
  rw [gen xs 0]
  by_cases e : xs.findIdx p < xs.length <;> simp [e]
end Vs

namespace Vs
open Go
def fitAt (rooms : List Int) (r : Int) : Nat := rooms.findIdx fun x => decide (r ≤ x)
def room1 (cap : Int) (rooms : List Int) (r : Int) : List Int := if fitAt rooms r = rooms.length then rooms ++ [cap] else rooms
def pstep (rates : List Int) (cap : Int) (a : List Int × List Int) (y : Int) : List Int × List Int :=
  let r := rates.getD y.toNat 0
  (a.1.set y.toNat (fitAt a.2 r : Int), (room1 cap a.2 r).set (fitAt a.2 r) (IntKind.wrap .i64 ((room1 cap a.2 r).getD (fitAt a.2 r) 0 - r)))
theorem fitAt_le (rooms : List Int) (r : Int) : fitAt rooms r ≤ rooms.length := List.findIdx_le_length
theorem fitAt_lt (cap : Int) (rooms : List Int) (r : Int) : fitAt rooms r < (room1 cap rooms r).length := by
  have := fitAt_le rooms r
  unfold room1
  split
  · simp; omega
  · omega
theorem room1_len (cap : Int) (rooms : List Int) (r : Int) : (room1 cap rooms r).length ≤ rooms.length + 1 := by
  unfold room1
  split
  · simp
  · omega
theorem get_nat {l : List Int} {i : Nat} (h : i < l.length) : l[i]? = some (l.getD i 0) := by
  rw [List.getD_eq_getElem?_getD, List.getElem?_eq_getElem h]; rfl
theorem geti_at {l : List Int} {y : Int} (h0 : 0 ≤ y) (h : y < l.length) : geti l y = some (l.getD y.toNat 0) := by
  obtain ⟨n, rfl⟩ := Int.eq_ofNat_of_zero_le h0
  rw [geti_nat]
  exact get_nat (by omega)
def packR (rates : List Int) (cap : Int) (ord : List Int) : List Int × List Int := ord.foldl (pstep rates cap) (List.replicate rates.length 0, [])
theorem packR_len (rates : List Int) (cap : Int) (ord : List Int) : (packR rates cap ord).1.length = rates.length := by
  have gen : ∀ (ord : List Int) (a : List Int × List Int), (ord.foldl (pstep rates cap) a).1.length = a.1.length := by
    intro ord
    induction ord with
    | nil => intro a; rfl
    | cons y ys ih => intro a; rw [List.foldl_cons, ih]; simp [pstep]
  unfold packR
  rw [gen]; simp
theorem p_l18Pack (rates ord : List Int) (cap : Int) (hr : rates.length ≤ 12) (ho : ord.length ≤ 12) (hv : ∀ y ∈ ord, 0 ≤ y ∧ y < rates.length) : M_spec_l18Pack rates ord cap = some ((packR rates cap ord).1, ((packR rates cap ord).2.length : Int)) := by
  unfold M_spec_l18Pack
  rw [grd_t (by omega)]
  simp only [Option.bind_some, bnd, Int.toNat_natCast]
  have key := iter_fold (f := M_spec_l18PackL1 rates ord cap) ord (fun i (a : List Int × List Int) => ((i : Int), a)) (pstep rates cap) id (fun i a => a.1.length = rates.length ∧ a.2.length ≤ i) (fun i a y hy hI => by
    have hlt := (List.getElem?_eq_some_iff.1 hy).1
    have h1 : decide ((i : Int) < ord.length) = true := by simp [hlt]
    obtain ⟨y0, y1⟩ := hv y (List.mem_of_getElem? hy)
    have hlen : (room1 cap a.2 (rates.getD y.toNat 0)).length ≤ a.2.length + 1 := room1_len ..
    refine ⟨⟨by simp [pstep, hI.1], by simp only [pstep, List.length_set]; omega⟩, ?_⟩
    have hin : iter (M_spec_l18PackL2 ((i : Int), a) (rates.getD y.toNat 0)) N0 0 = some ((fitAt a.2 (rates.getD y.toNat 0) : Nat) : Int) := by
      refine iter_find a.2 _ (fun j x hx => ?_) (by simp [M_spec_l18PackL2]) (by omega)
      have hj := (List.getElem?_eq_some_iff.1 hx).1
      have j1 : decide ((j : Int) < a.2.length) = true := by simp [hj]
      simp only [M_spec_l18PackL2, j1, cond_true, Int.toNat_natCast, hx, Option.bind_some]
      rw [grd_t ⟨by omega, by omega⟩, w64_eq (by omega) (by omega)]
      by_cases e : x < rates.getD y.toNat 0
      · have e2 : ¬ rates.getD y.toNat 0 ≤ x := by omega
        simp only [Option.bind_some, e, e2, decide_true, decide_false, cond_true, Bool.false_eq_true, if_false]; rfl
      · have e2 : rates.getD y.toNat 0 ≤ x := by omega
        simp only [Option.bind_some, e, e2, decide_true, decide_false, cond_false, if_true]
    simp only [M_spec_l18PackL1, h1, cond_true, geti_nat, hy, Option.bind_some, geti_at y0 y1, hin]
    have hc : (cond (((fitAt a.2 (rates.getD y.toNat 0) : Nat) : Int) == (a.2.length : Int)) (bnd ([cap]) fun lZ15 => (grd ((a.2.length + 1) * 8 ≤ 140737488355328)).bind fun uZ18 => bnd (a.2 ++ lZ15) fun lZ19 => some lZ19) (some a.2) : Option (List Int)) = some (room1 cap a.2 (rates.getD y.toNat 0)) := by
      unfold room1
      by_cases e : fitAt a.2 (rates.getD y.toNat 0) = a.2.length
      · have : (((fitAt a.2 (rates.getD y.toNat 0) : Nat) : Int) == (a.2.length : Int)) = true := beq_iff_eq.2 (by rw [e])
        rw [this, if_pos e]
        simp only [cond_true, bnd]
        rw [grd_t (by omega)]; rfl
      · have : (((fitAt a.2 (rates.getD y.toNat 0) : Nat) : Int) == (a.2.length : Int)) = false := beq_eq_false_iff_ne.2 (by omega)
        rw [this, if_neg e]; rfl
    have hfl := fitAt_lt cap a.2 (rates.getD y.toNat 0)
    rw [hc]
    simp only [Option.bind_some, bnd, Int.toNat_natCast]
    rw [grd_t ⟨by omega, by omega⟩, get_nat hfl]
    simp only [Option.bind_some]
    rw [grd_t ⟨by omega, by rw [hI.1]; omega⟩, get_nat (l := a.1) (i := y.toNat) (by rw [hI.1]; omega), w64_eq (n := (i : Int) + 1) (by omega) (by omega)]
    rfl) (fun a _ => by simp [M_spec_l18PackL1]) (List.replicate rates.length 0, []) ⟨by simp, by simp⟩ (by omega)
  rw [show iter (M_spec_l18PackL1 rates ord cap) N0 (0, List.replicate rates.length 0, []) = _ from key]
  rfl
theorem p_packed (rates ord : List Int) (cap : Int) (hr : rates.length ≤ 12) (ho : ord.length ≤ 12) (hv : ∀ y ∈ ord, 0 ≤ y ∧ y < rates.length) : M_impl_packed rates cap ord = some (packR rates cap ord).1 := by
  unfold M_impl_packed
  rw [grd_t (by omega)]
  simp only [Option.bind_some, bnd, Int.toNat_natCast]
  have key := iter_fold (f := M_impl_packedL1 rates cap ord) ord (fun i (a : List Int × List Int) => ((i : Int), a)) (pstep rates cap) (fun a => a.1) (fun i a => a.1.length = rates.length ∧ a.2.length ≤ i) (fun i a y hy hI => by
    have hlt := (List.getElem?_eq_some_iff.1 hy).1
    have h1 : decide ((i : Int) < ord.length) = true := by simp [hlt]
    obtain ⟨y0, y1⟩ := hv y (List.mem_of_getElem? hy)
    have hlen : (room1 cap a.2 (rates.getD y.toNat 0)).length ≤ a.2.length + 1 := room1_len ..
    refine ⟨⟨by simp [pstep, hI.1], by simp only [pstep, List.length_set]; omega⟩, ?_⟩
    have hin := p_IndexAt a.2 (fun x0 => M_impl_packed_c1 x0 rates y) (fun x => decide (rates.getD y.toNat 0 ≤ x)) (fun x _ => by simp only [M_impl_packed_c1, geti_at y0 y1, Option.bind_some]) (by omega)
    simp only [M_impl_packedL1, h1, cond_true, geti_nat, hy, Option.bind_some, hin]
    have hc : (cond (decide ((if a.2.findIdx (fun x => decide (rates.getD y.toNat 0 ≤ x)) < a.2.length then ((a.2.findIdx (fun x => decide (rates.getD y.toNat 0 ≤ x)) : Nat) : Int) else -1) < 0)) (bnd ([cap]) fun lZ9 => (grd ((a.2.length + 1) * 8 ≤ 140737488355328)).bind fun uZ12 => bnd (a.2 ++ lZ9) fun lZ13 => some ((a.2.length : Int), lZ13)) (some ((if a.2.findIdx (fun x => decide (rates.getD y.toNat 0 ≤ x)) < a.2.length then ((a.2.findIdx (fun x => decide (rates.getD y.toNat 0 ≤ x)) : Nat) : Int) else -1), a.2)) : Option (Int × List Int)) = some (((fitAt a.2 (rates.getD y.toNat 0) : Nat) : Int), room1 cap a.2 (rates.getD y.toNat 0)) := by
      have hle := fitAt_le a.2 (rates.getD y.toNat 0)
      unfold room1
      unfold fitAt at hle ⊢
      by_cases e : a.2.findIdx (fun x => decide (rates.getD y.toNat 0 ≤ x)) < a.2.length
      · rw [if_pos e, if_neg (by omega)]
        have : decide (((a.2.findIdx (fun x => decide (rates.getD y.toNat 0 ≤ x)) : Nat) : Int) < 0) = false := by simp
        rw [this]; rfl
      · have e2 : a.2.findIdx (fun x => decide (rates.getD y.toNat 0 ≤ x)) = a.2.length := by omega
        rw [if_neg e, if_pos e2, e2]
        simp only [bnd]
        rw [grd_t (by omega)]; rfl
    have hfl := fitAt_lt cap a.2 (rates.getD y.toNat 0)
    rw [hc]
    simp only [Option.bind_some, bnd, Int.toNat_natCast, geti_at y0 y1]
    rw [grd_t ⟨by omega, by omega⟩, get_nat hfl]
    simp only [Option.bind_some]
    rw [grd_t ⟨by omega, by rw [hI.1]; omega⟩, get_nat (l := a.1) (i := y.toNat) (by rw [hI.1]; omega), w64_eq (n := (i : Int) + 1) (by omega) (by omega)]
    rfl) (fun a _ => by simp [M_impl_packedL1]) (List.replicate rates.length 0, []) ⟨by simp, by simp⟩ (by omega)
  rw [show iter (M_impl_packedL1 rates cap ord) N0 (0, List.replicate rates.length 0, []) = _ from key]
  rfl
end Vs

namespace Vs
open Go
def rk (rates : List Int) (x : Int) : Int := rates.getD x.toNat 0
def atp (rates pre : List Int) (x : Int) : Nat → Nat
  | 0 => 0
  | k + 1 => if rk rates (pre.getD k 0) < rk rates x then atp rates pre x k else k + 1
theorem atp_le (rates pre : List Int) (x : Int) : ∀ k, atp rates pre x k ≤ k
  | 0 => Nat.le_refl _
  | k + 1 => by
    simp only [atp]
    split
    · have := atp_le rates pre x k; omega
    · exact Nat.le_refl _
def insAt (rates pre : List Int) (x : Int) : List Int := pre.take (atp rates pre x pre.length) ++ x :: pre.drop (atp rates pre x pre.length)
theorem insAt_len (rates pre : List Int) (x : Int) : (insAt rates pre x).length = pre.length + 1 := by
  have := atp_le rates pre x pre.length
  simp [insAt]; omega
theorem insAt_mem {rates pre : List Int} {x y : Int} (h : y ∈ insAt rates pre x) : y = x ∨ y ∈ pre := by
  simp only [insAt, List.mem_append, List.mem_cons] at h
  rcases h with h | h | h
  · exact .inr (List.mem_of_mem_take h)
  · exact .inl h
  · exact .inr (List.mem_of_mem_drop h)
def Val (n : Nat) (a : List Int) : Prop := ∀ y ∈ a, 0 ≤ y ∧ y < (n : Int)
theorem insAt_val {n : Nat} {rates pre : List Int} {x : Int} (h : Val n pre) (h0 : 0 ≤ x) (h1 : x < (n : Int)) : Val n (insAt rates pre x) := by
  intro y hy
  rcases insAt_mem hy with rfl | hy
  · exact ⟨h0, h1⟩
  · exact h y hy
def dord (rates : List Int) (m : Nat) : List Int := (List.range m).foldl (fun a _ => insAt rates a (a.length : Int)) []
theorem dord_ok (rates : List Int) (n : Nat) : ∀ m, m ≤ n → (dord rates m).length = m ∧ Val n (dord rates m)
  | 0, _ => ⟨rfl, fun y hy => by simp [dord] at hy⟩
  | m + 1, h => by
    obtain ⟨h1, h2⟩ := dord_ok rates n m (by omega)
    have e : dord rates (m + 1) = insAt rates (dord rates m) ((dord rates m).length : Int) := by simp [dord, List.range_succ]
    rw [e]
    exact ⟨by rw [insAt_len, h1], insAt_val h2 (by omega) (by omega)⟩
theorem atp_spec {rates a : List Int} {x : Int} {s : Int × List Int} (hs : s = (x, a)) (ha : Val rates.length a) (h0 : 0 ≤ x) (h1 : x < (rates.length : Int)) (hl : a.length ≤ 12) : ∀ (k m : Nat), k ≤ a.length → k < m →
    iter (M_spec_l18OrderL2 rates true s) m (k : Int) = some ((atp rates a x k : Nat) : Int) := by
  subst hs
  intro k
  induction k with
  | zero =>
    intro m _ hm
    cases m with
    | zero => omega
    | succ m => simp [iter, M_spec_l18OrderL2, atp]
  | succ k ih =>
    intro m hk hm
    cases m with
    | zero => omega
    | succ m =>
      have hw : IntKind.wrap .i64 (((k + 1 : Nat) : Int) - 1) = (k : Int) := (by
        have e : ((k + 1 : Nat) : Int) - 1 = (k : Int) := by omega
        rw [e]; exact w64_eq (by omega) (by omega))
      have hp : decide ((0 : Int) < ((k + 1 : Nat) : Int)) = true := decide_eq_true (by omega)
      obtain ⟨y0, y1⟩ := ha (a.getD k 0) (by rw [List.getD_eq_getElem?_getD, List.getElem?_eq_getElem (by omega)]; exact List.getElem_mem _)
      simp only [iter, M_spec_l18OrderL2, cond_true, hp, hw, Int.toNat_natCast]
      rw [grd_t ⟨by omega, by omega⟩, get_nat (l := a) (i := k) (by omega)]
      simp only [Option.bind_some, geti_at y0 y1, geti_at h0 h1, atp, rk]
      by_cases e : rates.getD (a.getD k 0).toNat 0 < rates.getD x.toNat 0
      · simp only [e, decide_true, cond_true, if_true]
        exact ih m (by omega) (by omega)
      · simp only [e, decide_false, cond_false, if_false]
theorem p_order (rates : List Int) (hl : rates.length ≤ 12) : M_spec_l18Order rates true = some (dord rates rates.length) := by
  unfold M_spec_l18Order
  have key := iter_fold (f := M_spec_l18OrderL1 rates true) (List.range rates.length) (fun i (a : List Int) => ((i : Int), a)) (fun (a : List Int) _ => insAt rates a (a.length : Int)) id (fun i a => a.length = i ∧ Val rates.length a) (fun i a x hx hI => by
    have hlt := (List.getElem?_eq_some_iff.1 hx).1
    rw [List.length_range] at hlt
    obtain ⟨hI, hV⟩ := hI
    have h1 : decide ((i : Int) < (rates.length : Int)) = true := by simp [hlt]
    refine ⟨⟨by rw [insAt_len, hI], insAt_val hV (by omega) (by omega)⟩, ?_⟩
    have hin := atp_spec (rates := rates) (a := a) (x := (i : Int)) rfl hV (by omega) (by omega) (by omega) a.length N0 (Nat.le_refl _) (N0_lt (by omega))
    have hle := atp_le rates a (i : Int) a.length
    simp only [M_spec_l18OrderL1, h1, cond_true, hin, Option.bind_some, bnd, Int.toNat_natCast]
    rw [grd_t ⟨trivial, by omega, trivial, hle⟩]
    simp only [Option.bind_some, subT_drop, List.drop_zero]
    rw [grd_t (by simp; omega)]
    simp only [Option.bind_some]
    rw [grd_t (by simp; omega)]
    simp only [Option.bind_some]
    rw [grd_t ⟨by omega, trivial, hle, trivial⟩]
    simp only [Option.bind_some]
    rw [grd_t (by simp; omega), w64_eq (by omega) (by omega)]
    have e : (List.drop (atp rates a (i : Int) a.length) a).take (a.length - atp rates a (i : Int) a.length) = List.drop (atp rates a (i : Int) a.length) a := List.take_of_length_le (by simp)
    rw [e]
    simp [insAt, hI]) (fun a _ => by simp [M_spec_l18OrderL1]) [] ⟨rfl, fun y hy => by simp at hy⟩ (by simp; omega)
  rw [show iter (M_spec_l18OrderL1 rates true) N0 (0, []) = _ from key]; rfl
theorem at_mid {A B : List Int} {x : Int} : (A ++ x :: B)[A.length]? = some x := by simp
theorem at_mid1 {A B : List Int} {x y : Int} : (A ++ y :: x :: B)[A.length + 1]? = some x := by simp
theorem set_mid {A B : List Int} {x z : Int} : (A ++ x :: B).set A.length z = A ++ z :: B := by simp
theorem set_mid1 {A B : List Int} {x y z : Int} : (A ++ y :: x :: B).set (A.length + 1) z = A ++ y :: z :: B := by simp
theorem p_cmp {rates : List Int} {x y : Int} (hx0 : 0 ≤ x) (hx : x < rates.length) (hy0 : 0 ≤ y) (hy : y < rates.length) : ∃ r, M_impl_descending_c1 x y rates = some r ∧ decide (r < 0) = decide (rk rates y < rk rates x) := by
  unfold M_impl_descending_c1 M_cmp_Compare_int M_cmp_isNaN_int rk
  simp only [geti_at hx0 hx, geti_at hy0 hy, Option.bind_some, bne_self_eq_false, cond_false]
  by_cases e : rates.getD y.toNat 0 < rates.getD x.toNat 0
  · exact ⟨-1, by simp only [e, decide_true, cond_true, Option.bind_some], by simp only [e, decide_true]; decide⟩
  · by_cases e2 : rates.getD x.toNat 0 < rates.getD y.toNat 0
    · exact ⟨1, by simp only [e, e2, decide_true, decide_false, cond_true, cond_false, Option.bind_some], by simp only [e, decide_false]; decide⟩
    · exact ⟨0, by simp only [e, e2, decide_false, cond_false, Option.bind_some], by simp only [e, decide_false]; decide⟩
theorem inner {rates pre T : List Int} {x : Int} (hp : Val rates.length pre) (h0 : 0 ≤ x) (h1 : x < (rates.length : Int)) (hl : rates.length ≤ 12) (n : Nat) (hn : pre.length < n) (hn2 : n ≤ 12) : ∀ (j m : Nat), j ≤ pre.length → j < m →
    iter (M_slices_insertionSortCmpFunc_intM2L2 0 n 0 rates) m ((j : Int), pre.take j ++ x :: (pre.drop j ++ T)) = some (pre.take (atp rates pre x j) ++ x :: (pre.drop (atp rates pre x j) ++ T)) := by
  intro j
  induction j with
  | zero =>
    intro m _ hm
    cases m with
    | zero => omega
    | succ m => simp [iter, M_slices_insertionSortCmpFunc_intM2L2, atp]
  | succ j ih =>
    intro m hj hm
    cases m with
    | zero => omega
    | succ m =>
      have hw : IntKind.wrap .i64 (((j + 1 : Nat) : Int) - 1) = (j : Int) := (by
        have e : ((j + 1 : Nat) : Int) - 1 = (j : Int) := by omega
        rw [e]; exact w64_eq (by omega) (by omega))
      have hpos : decide ((0 : Int) < ((j + 1 : Nat) : Int)) = true := decide_eq_true (by omega)
      have hy : pre.getD j 0 ∈ pre := by rw [List.getD_eq_getElem?_getD, List.getElem?_eq_getElem (by omega)]; exact List.getElem_mem _
      have e1 : pre.take (j + 1) = pre.take j ++ [pre.getD j 0] := by
        rw [List.take_add_one, get_nat (l := pre) (i := j) (by omega)]; rfl
      have e2 : pre.drop j = pre.getD j 0 :: pre.drop (j + 1) := by
        rw [List.drop_eq_getElem_cons (by omega : j < pre.length), List.getD_eq_getElem?_getD, List.getElem?_eq_getElem (by omega)]; rfl
      have hA : (pre.take j).length = j := by simp; omega
      have hih := ih m (by omega) (by omega)
      rw [e2] at hih
      have eD : pre.take (j + 1) ++ x :: (pre.drop (j + 1) ++ T) = pre.take j ++ pre.getD j 0 :: x :: (pre.drop (j + 1) ++ T) := by rw [e1]; simp
      obtain ⟨y0, y1⟩ := hp _ hy
      obtain ⟨r, hr, hrd⟩ := p_cmp h0 h1 y0 y1
      have eat : atp rates pre x (j + 1) = if rk rates (pre.getD j 0) < rk rates x then atp rates pre x j else j + 1 := rfl
      rw [eat, eD]
      have hih2 := hih
      simp only [List.cons_append] at hih2
      have hfin : ∀ k, k = j + 1 → pre.take k ++ x :: (pre.drop k ++ T) = pre.take j ++ pre.getD j 0 :: x :: (pre.drop (j + 1) ++ T) := fun k hk => by rw [hk]; exact eD
      clear hih eD e2
      generalize pre.drop (j + 1) ++ T = B at *
      generalize pre.take j = A at *
      generalize pre.getD j 0 = y at *
      subst hA
      have g1 : (A ++ y :: x :: B)[A.length + 1]? = some x := at_mid1
      have g2 : (A ++ y :: x :: B)[A.length]? = some y := at_mid
      have g3 : (A ++ y :: x :: B).set (A.length + 1) y = A ++ y :: y :: B := set_mid1
      have g4 : (A ++ y :: y :: B)[A.length]? = some y := at_mid
      have g5 : (A ++ y :: y :: B).set A.length x = A ++ x :: y :: B := set_mid
      simp only [iter, M_slices_insertionSortCmpFunc_intM2L2, hpos, cond_true, hw, Int.toNat_natCast, Nat.zero_add, g1, g2, Option.bind_some, hr]
      rw [grd_t ⟨by omega, by omega⟩]
      simp only [Option.bind_some]
      rw [grd_t ⟨by omega, by omega⟩]
      simp only [Option.bind_some, hrd, g1, g2, bnd, g3, g4, g5]
      by_cases e : rk rates y < rk rates x
      · simp only [e, decide_true, cond_true, if_true]
        exact hih2
      · simp only [e, decide_false, cond_false, if_false]
        rw [hfin _ rfl]
end Vs

namespace Vs
open Go
def tl (n k : Nat) : List Int := (List.range' k (n - k)).map fun j : Nat => (j : Int)
theorem tl_cons {n k : Nat} (h : k < n) : tl n k = (k : Int) :: tl n (k + 1) := by
  unfold tl
  rw [show n - k = (n - (k + 1)) + 1 by omega, List.range'_succ]
  rfl
theorem nums_eq (xs : List Int) : nums xs = tl xs.length 0 := by
  have gen : ∀ (xs : List Int) (k : Nat), xs.foldl (fun (a : List Int) _ => a ++ [(a.length : Int)]) ((List.range k).map fun j : Nat => (j : Int)) = (List.range (k + xs.length)).map fun j : Nat => (j : Int) := by
    intro xs
    induction xs with
    | nil => intro k; rfl
    | cons x xs ih =>
      intro k
      have := ih (k + 1)
      rw [List.range_succ, List.map_append] at this
      simp only [List.foldl_cons, List.length_map, List.length_range, List.length_cons]
      rw [show k + (xs.length + 1) = k + 1 + xs.length by omega]
      exact this
  have := gen xs 0
  simp only [List.range_zero, List.map_nil, Nat.zero_add] at this
  unfold nums tl
  rw [this, List.range_eq_range', Nat.sub_zero]
theorem p_sort (rates : List Int) (hl : rates.length ≤ 12) : M_slices_insertionSortCmpFunc_intM2 0 rates.length 0 (rates.length : Int) (nums rates) rates = some (dord rates rates.length, rates) := by
  unfold M_slices_insertionSortCmpFunc_intM2
  rw [show IntKind.wrap .i64 ((0 : Int) + 1) = 1 from by decide]
  rcases Nat.eq_zero_or_pos rates.length with h0 | h0
  · have hr : rates = [] := List.eq_nil_of_length_eq_zero h0
    subst hr
    rw [show N0 = (N0 - 1) + 1 from rfl]
    simp [iter, M_slices_insertionSortCmpFunc_intM2L1, nums, dord]
  · have key := iter_fold (f := M_slices_insertionSortCmpFunc_intM2L1 0 rates.length 0 (rates.length : Int) rates) (List.range (rates.length - 1)) (fun i (a : List Int) => (((i + 1 : Nat) : Int), a ++ tl rates.length (i + 1))) (fun (a : List Int) _ => insAt rates a (a.length : Int)) id (fun i a => a.length = i + 1 ∧ Val rates.length a) (fun i a x hx hI => by
      have hlt := (List.getElem?_eq_some_iff.1 hx).1
      rw [List.length_range] at hlt
      obtain ⟨hI, hV⟩ := hI
      have h1 : decide (((i + 1 : Nat) : Int) < (rates.length : Int)) = true := decide_eq_true (by omega)
      refine ⟨⟨by rw [insAt_len, hI], insAt_val hV (by omega) (by omega)⟩, ?_⟩
      have hin := inner (rates := rates) (pre := a) (T := tl rates.length (i + 1 + 1)) (x := (a.length : Int)) hV (by omega) (by omega) hl rates.length (by omega) hl a.length N0 (Nat.le_refl _) (N0_lt (by omega))
      rw [List.take_length, List.drop_length, List.nil_append] at hin
      have ed : a ++ tl rates.length (i + 1) = a ++ (a.length : Int) :: tl rates.length (i + 1 + 1) := by rw [tl_cons (by omega : i + 1 < rates.length), hI]
      simp only [M_slices_insertionSortCmpFunc_intM2L1, h1, cond_true]
      rw [ed, show (((i + 1 : Nat) : Int)) = (a.length : Int) by rw [hI], hin]
      simp only [Option.bind_some]
      rw [w64_eq (by omega) (by omega)]
      simp [insAt, hI]) (fun a _ => by
        have e : decide ((((List.range (rates.length - 1)).length + 1 : Nat) : Int) < (rates.length : Int)) = false := by rw [List.length_range]; exact decide_eq_false (by omega)
        have e2 : tl rates.length ((List.range (rates.length - 1)).length + 1) = [] := by
          rw [List.length_range, show rates.length - 1 + 1 = rates.length by omega]; simp [tl]
        simp only [M_slices_insertionSortCmpFunc_intM2L1, e, cond_false, e2, List.append_nil]; rfl) [0] ⟨rfl, fun y hy => by rw [List.mem_singleton] at hy; subst hy; omega⟩ (by simp; omega)
    have en : nums rates = [0] ++ tl rates.length (0 + 1) := by rw [nums_eq, tl_cons h0]; rfl
    rw [en]
    have e1 : (((0 + 1 : Nat) : Int)) = 1 := rfl
    rw [e1] at key
    rw [key]
    simp only [Option.bind_some, id]
    have ef : (List.range (rates.length - 1)).foldl (fun (a : List Int) _ => insAt rates a (a.length : Int)) [0] = dord rates rates.length := by
      have gen : ∀ m, (List.range m).foldl (fun (a : List Int) (_ : Nat) => insAt rates a (a.length : Int)) [0] = dord rates (m + 1) := by
        intro m
        induction m with
        | zero => rfl
        | succ m ih => rw [List.range_succ, List.foldl_append, ih]; simp [dord, List.range_succ]
      rw [gen, show rates.length - 1 + 1 = rates.length by omega]
    rw [ef]
theorem p_stable (rates : List Int) (hl : rates.length ≤ 12) : M_slices_SortStableFunc_Lint_intM1 (nums rates) rates = some (dord rates rates.length, rates) := by
  unfold M_slices_SortStableFunc_Lint_intM1 M_slices_stableCmpFunc_intM1
  have hn := (nums_ok rates).1
  rw [hn, show N0 = (N0 - 1) + 1 from rfl]
  have e : decide ((20 : Int) ≤ (rates.length : Int)) = false := decide_eq_false (by omega)
  have e2 : decide ((20 : Int) < (rates.length : Int)) = false := decide_eq_false (by omega)
  simp only [iter, M_slices_stableCmpFunc_intM1L1, e, cond_false, Option.bind_some, p_sort rates hl, M_slices_stableCmpFunc_intM1L2, e2]
theorem p_desc (rates : List Int) (cap : Int) (hl : rates.length ≤ 12) : M_impl_descending rates cap = some (packR rates cap (dord rates rates.length)).1 := by
  unfold M_impl_descending
  obtain ⟨d1, d2⟩ := dord_ok rates rates.length rates.length (Nat.le_refl _)
  have hn := (nums_ok rates).1
  have hs : subT (dord rates rates.length) 0 (nums rates).length = dord rates rates.length := by rw [hn]; simp [subT, d1]
  simp only [p_numbered rates hl, Option.bind_some, p_stable rates hl, bnd, hs, p_packed rates (dord rates rates.length) cap hl (by omega) d2]
def pdR (xs : List Int) (cap : Int) : List Int × Bool := if packOk xs cap then ((packR xs cap (dord xs xs.length)).1, true) else ([], false)
theorem packOk_len {xs : List Int} {cap : Int} (h : packOk xs cap = true) : xs.length ≤ 12 := by
  simp only [packOk, Bool.and_eq_true, decide_eq_true_eq] at h; exact h.1.2
theorem pdR_len (xs : List Int) (cap : Int) : (pdR xs cap).1.length ≤ 12 := by
  unfold pdR
  split
  · rename_i h; rw [packR_len]; exact packOk_len h
  · simp
end Vs

namespace Vs
open Go
/-! ### the number of units: the greatest unit and one -/
theorem dord_nodup (rates : List Int) : ∀ m, (dord rates m).Nodup
  | 0 => by simp [dord]
  | m + 1 => by
    have e : dord rates (m + 1) = insAt rates (dord rates m) ((dord rates m).length : Int) := by unfold dord; rw [List.range_succ, List.foldl_append]; rfl
    obtain ⟨hl, hv⟩ := dord_ok rates m m (Nat.le_refl _)
    rw [e]
    have hperm : (insAt rates (dord rates m) ((dord rates m).length : Int)).Perm (((dord rates m).length : Int) :: dord rates m) := by
      unfold insAt
      have := (List.perm_middle (a := ((dord rates m).length : Int)) (l₁ := (dord rates m).take (atp rates (dord rates m) ((dord rates m).length : Int) (dord rates m).length)) (l₂ := (dord rates m).drop (atp rates (dord rates m) ((dord rates m).length : Int) (dord rates m).length)))
      rwa [List.take_append_drop] at this
    rw [hperm.nodup_iff, List.nodup_cons]
    refine ⟨fun hm => ?_, dord_nodup rates m⟩
    have := hv _ hm
    rw [hl] at this; omega
/-- out: units of the indices seen; all below the number of rooms; the last room was taken by one of them -/
def PkI (n : Nat) (P : List Int) (a : List Int × List Int) : Prop := a.1.length = n ∧ (∀ v ∈ a.1, 0 ≤ v ∧ (v = 0 ∨ v < (a.2.length : Int))) ∧ (0 < P.length → 0 < a.2.length) ∧ (0 < a.2.length → ∃ y ∈ P, a.1[y.toNat]? = some ((a.2.length : Int) - 1))
theorem pk_step {n : Nat} {rates : List Int} {cap : Int} {P : List Int} {a : List Int × List Int} {y : Int} (hP : ∀ x ∈ P, 0 ≤ x ∧ x < (n : Int)) (hy : 0 ≤ y ∧ y < (n : Int)) (hn : y ∉ P) (h : PkI n P a) : PkI n (P ++ [y]) (pstep rates cap a y) := by
  obtain ⟨h1, h2, h3, h4⟩ := h
  have hfl := fitAt_lt cap a.2 (rates.getD y.toNat 0)
  have hfle := fitAt_le a.2 (rates.getD y.toNat 0)
  have hlen : (pstep rates cap a y).2.length = (room1 cap a.2 (rates.getD y.toNat 0)).length := by simp [pstep]
  have hrl : (room1 cap a.2 (rates.getD y.toNat 0)).length = if fitAt a.2 (rates.getD y.toNat 0) = a.2.length then a.2.length + 1 else a.2.length := by
    unfold room1; split <;> simp
  have hout : (pstep rates cap a y).1 = a.1.set y.toNat (fitAt a.2 (rates.getD y.toNat 0) : Int) := rfl
  have hyl : y.toNat < a.1.length := by omega
  refine ⟨by rw [hout]; simpa using h1, ?_, ?_, ?_⟩
  · intro v hv
    rw [hout] at hv
    rw [hlen]
    rcases List.mem_or_eq_of_mem_set hv with hv | rfl
    · obtain ⟨g1, g2⟩ := h2 v hv
      refine ⟨g1, g2.imp id fun g => ?_⟩
      rw [hrl]; split <;> omega
    · exact ⟨by omega, .inr (by omega)⟩
  · intro _; rw [hlen]; omega
  · intro _
    rw [hlen]
    by_cases e : fitAt a.2 (rates.getD y.toNat 0) = a.2.length
    · refine ⟨y, by simp, ?_⟩
      rw [hout, List.getElem?_set, if_pos rfl, if_pos hyl, hrl, if_pos e, e]
      congr 1; omega
    · have ha : 0 < a.2.length := by omega
      obtain ⟨x, hx, hx2⟩ := h4 ha
      refine ⟨x, by simp [hx], ?_⟩
      have hne : y.toNat ≠ x.toNat := by
        intro e2
        have := hP x hx
        have : x = y := by omega
        subst this; exact hn hx
      rw [hout, List.getElem?_set, if_neg hne, hx2, hrl, if_neg e]
theorem pk_fold {n : Nat} {rates : List Int} {cap : Int} : ∀ (ord P : List Int) (a : List Int × List Int), (∀ x ∈ P ++ ord, 0 ≤ x ∧ x < (n : Int)) → (P ++ ord).Nodup → PkI n P a → PkI n (P ++ ord) (ord.foldl (pstep rates cap) a)
  | [], P, a, _, _, h => by simpa using h
  | y :: ys, P, a, hv, hn, h => by
    have e : P ++ y :: ys = (P ++ [y]) ++ ys := by simp
    rw [e] at hv hn ⊢
    rw [List.foldl_cons]
    refine pk_fold ys (P ++ [y]) _ hv hn (pk_step (fun x hx => hv x (by simp [hx])) (hv y (by simp)) ?_ h)
    have := (List.nodup_append.1 hn).1
    rw [List.nodup_append] at this
    intro hy
    exact this.2.2 y hy y (by simp) rfl
theorem packR_units {rates : List Int} {cap : Int} (h0 : 0 < rates.length) : ∃ r : Nat, (packR rates cap (dord rates rates.length)).2.length = r + 1 ∧ r < rates.length ∧ (∀ v ∈ (packR rates cap (dord rates rates.length)).1, 0 ≤ v ∧ v ≤ (r : Int)) ∧ (r : Int) ∈ (packR rates cap (dord rates rates.length)).1 := by
  obtain ⟨hl, hv⟩ := dord_ok rates rates.length rates.length (Nat.le_refl _)
  have hf := pk_fold (n := rates.length) (rates := rates) (cap := cap) (dord rates rates.length) [] (List.replicate rates.length 0, []) (fun x hx => hv x (by simpa using hx)) (by simpa using dord_nodup rates rates.length)
    ⟨by simp, fun v hv => by have := List.eq_of_mem_replicate hv; subst this; simp, by simp, by simp⟩
  rw [List.nil_append] at hf
  obtain ⟨h1, h2, h3, h4⟩ := hf
  have hp := h3 (by omega)
  obtain ⟨y, hy, hy2⟩ := h4 hp
  have hle : ∀ (ord : List Int) (a : List Int × List Int), (ord.foldl (pstep rates cap) a).2.length ≤ a.2.length + ord.length := by
    intro ord
    induction ord with
    | nil => intro a; simp
    | cons z zs ih =>
      intro a
      rw [List.foldl_cons]
      have := ih (pstep rates cap a z)
      have h5 : (pstep rates cap a z).2.length = (room1 cap a.2 (rates.getD z.toNat 0)).length := by simp [pstep]
      have h6 := room1_len cap a.2 (rates.getD z.toNat 0)
      simp only [List.length_cons]; omega
  have h7 := hle (dord rates rates.length) (List.replicate rates.length 0, [])
  simp only [List.length_nil] at h7
  refine ⟨(packR rates cap (dord rates rates.length)).2.length - 1, by unfold packR; omega, by unfold packR; omega, fun v hv => ?_, ?_⟩
  · obtain ⟨g1, g2⟩ := h2 v hv
    refine ⟨g1, ?_⟩
    unfold packR
    omega
  · have := List.mem_of_getElem? hy2
    unfold packR
    rwa [show (((List.foldl (pstep rates cap) (List.replicate rates.length 0, []) (dord rates rates.length)).2.length - 1 : Nat) : Int) = ((List.foldl (pstep rates cap) (List.replicate rates.length 0, []) (dord rates rates.length)).2.length : Int) - 1 by omega]
theorem walkL_max : ∀ (xs : List Int) (i : Nat) (m : Int), ∃ r, walkL (fun _ y (m : Int) => (.inl (if m < y then y else m) : Int ⊕ Int)) (fun m => m) i xs m = r ∧ (r = m ∨ r ∈ xs) ∧ m ≤ r ∧ ∀ x ∈ xs, x ≤ r
  | [], i, m => ⟨m, by simp [walkL], .inl rfl, Int.le_refl _, by simp⟩
  | y :: xs, i, m => by
    obtain ⟨r, h1, h2, h3, h4⟩ := walkL_max xs (i + 1) (if m < y then y else m)
    refine ⟨r, by simp only [walkL]; exact h1, ?_, ?_, ?_⟩
    · rcases h2 with h2 | h2
      · by_cases e : m < y
        · rw [if_pos e] at h2; right; rw [h2]; simp
        · rw [if_neg e] at h2; exact .inl h2
      · exact .inr (List.mem_cons_of_mem _ h2)
    · split at h3 <;> omega
    · intro x hx
      rcases List.mem_cons.1 hx with rfl | hx
      · split at h3 <;> omega
      · exact h4 x hx
theorem p_MaxI (xs : List Int) (h0 : 0 < xs.length) (hl : xs.length ≤ 1048576) : ∃ m, M_slices_Max_Lint_int xs = some m ∧ m ∈ xs ∧ ∀ x ∈ xs, x ≤ m := by
  cases xs with
  | nil => simp at h0
  | cons x t =>
    simp only [List.length_cons] at hl
    have := iter_list (f := M_slices_Max_Lint_intL1 (x :: t)) t (fun i (m : Int) => (m, ((i + 1 : Nat) : Int))) (fun _ y (m : Int) => .inl (if m < y then y else m)) (fun m => m) (fun _ _ => True) (fun i m y hy _ => by
      have hlt := (List.getElem?_eq_some_iff.1 hy).1
      have h1 : decide (((i + 1 : Nat) : Int) < ((x :: t).length : Int)) = true := by simp; omega
      refine .inl ⟨_, rfl, trivial, ?_⟩
      have hy' : (x :: t)[i + 1]? = some y := by simpa using hy
      simp only [M_slices_Max_Lint_intL1, h1, cond_true, geti_nat, hy', Option.bind_some]
      rw [w64_eq (by omega) (by omega)]
      rfl) (fun m _ => by simp [M_slices_Max_Lint_intL1]) x trivial (by omega)
    obtain ⟨r, h1, h2, h3, h4⟩ := walkL_max t 0 x
    refine ⟨r, ?_, ?_, ?_⟩
    · unfold M_slices_Max_Lint_int
      have e2 : decide (((x :: t).length : Int) < 1) = false := by simp; omega
      rw [e2, cond_false]
      have e3 : geti (x :: t) 0 = some x := geti_nat (x :: t) 0
      rw [e3]
      simp only [Option.bind_some]
      have e : ((0 + 1 : Nat) : Int) = 1 := rfl
      simp only [e] at this
      rw [this, h1]; rfl
    · rcases h2 with rfl | h2
      · simp
      · exact List.mem_cons_of_mem _ h2
    · intro y hy
      rcases List.mem_cons.1 hy with rfl | hy
      · exact h3
      · exact h4 y hy
def unitsN (rates : List Int) (cap : Int) : Int := ((packR rates cap (dord rates rates.length)).2.length : Int)
theorem p_unitsI (rates : List Int) (cap : Int) (h0 : 0 < rates.length) (hl : rates.length ≤ 12) : ((M_impl_descending rates cap).bind fun r => (M_slices_Max_Lint_int r).bind fun m => some (IntKind.wrap .i64 (m + 1))) = some (unitsN rates cap) := by
  obtain ⟨r, h1, h2, h3, h4⟩ := packR_units (cap := cap) h0
  have hlen := packR_len rates cap (dord rates rates.length)
  obtain ⟨m, m1, m2, m3⟩ := p_MaxI (packR rates cap (dord rates rates.length)).1 (by omega) (by omega)
  rw [p_desc rates cap hl]
  simp only [Option.bind_some, m1]
  have a := m3 _ h4
  have b := (h3 _ m2)
  have e : m = (r : Int) := by omega
  rw [e, w64_eq (by omega) (by omega)]
  unfold unitsN
  rw [h1]; rfl
theorem p_unitsS (rates : List Int) (cap : Int) (hl : rates.length ≤ 12) : ∃ o, M_spec_l18Order rates true = some o ∧ ∃ u, M_spec_l18Pack rates o cap = some (u, unitsN rates cap) := by
  obtain ⟨h1, h2⟩ := dord_ok rates rates.length rates.length (Nat.le_refl _)
  exact ⟨_, p_order rates hl, _, p_l18Pack rates _ cap hl (by omega) h2⟩
end Vs

namespace Vs
open Go
def loT (t : TTributary) : Int := if t.To < t.From then t.To else t.From
def hiT (t : TTributary) : Int := if t.From < t.To then t.To else t.From
theorem p_l1Least (t : TTributary) : M_spec_l1Least t.From t.To = some (loT t) := by
  unfold M_spec_l1Least loT
  by_cases h : t.From < t.To
  · rw [decide_eq_true h, cond_true, if_neg (by omega)]
  · rw [decide_eq_false h, cond_false]
    by_cases h2 : t.To < t.From
    · rw [if_pos h2]
    · rw [if_neg h2]; congr 1; omega
theorem p_l1MostT (t : TTributary) : M_spec_l1Most t.From t.To = some (hiT t) := by
  unfold M_spec_l1Most hiT
  by_cases h : t.To < t.From
  · rw [decide_eq_true h, cond_true, if_neg (by omega)]
  · rw [decide_eq_false h, cond_false]
    by_cases h2 : t.From < t.To
    · rw [if_pos h2]
    · rw [if_neg h2]; congr 1; omega
def isAB (a b : Int) (t : TTributary) : Bool := loT t == a && hiT t == b
def ratesAB (list : List TTributary) (a b : Int) : List Int := (list.filter (isAB a b)).map (·.Rate)
theorem walkL_flt (p : TTributary → Bool) : ∀ (xs : List TTributary) (i : Nat) (a : List Int), walkL (fun _ x (a : List Int) => (.inl (if p x then a ++ [x.Rate] else a) : List Int ⊕ List Int)) (fun a => a) i xs a = a ++ (xs.filter p).map (·.Rate)
  | [], i, a => by simp [walkL]
  | x :: xs, i, a => by
    simp only [walkL]
    rw [walkL_flt p xs (i + 1), List.filter_cons]
    split <;> simp
theorem p_implL3 (list : List TTributary) (s8 s10 : Int × List (List Int)) (hl : list.length ≤ 1048576) : iter (M_impl_GroomDirectL3 list s8 s10) N0 (0, []) = some (ratesAB list s8.1 s10.1) := by
  have := iter_list (f := M_impl_GroomDirectL3 list s8 s10) list (fun i (a : List Int) => ((i : Int), a)) (fun _ t a => .inl (if isAB s8.1 s10.1 t then a ++ [t.Rate] else a)) (fun a => a) (fun i a => a.length ≤ i) (fun i a t ht hI => by
    have hlt := (List.getElem?_eq_some_iff.1 ht).1
    have h1 : decide ((i : Int) < list.length) = true := by simp [hlt]
    refine .inl ⟨_, rfl, ?_, ?_⟩
    · split
      · simp only [List.length_append, List.length_cons, List.length_nil]; omega
      · omega
    · simp only [M_impl_GroomDirectL3, h1, cond_true, geti_nat, ht, Option.bind_some, bnd]
      rw [w64_eq (by omega) (by omega), grd_t (by omega)]
      show (Option.bind (cond (loT t == s8.1) (some (hiT t == s10.1)) (some false)) _) = _
      unfold isAB
      cases loT t == s8.1 <;> cases hiT t == s10.1 <;> rfl) (fun a _ => by simp [M_impl_GroomDirectL3]) [] (Nat.le_refl _) (by omega)
  rw [walkL_flt] at this
  simpa [ratesAB] using this
theorem p_specL4 (list : List TTributary) (s8 s10 : Int × List (List Int)) (hl : list.length ≤ 1048576) : iter (M_spec_GroomDirectL4 list s8 s10) N0 (0, []) = some (ratesAB list s8.1 s10.1) := by
  have := iter_list (f := M_spec_GroomDirectL4 list s8 s10) list (fun i (a : List Int) => ((i : Int), a)) (fun _ t a => .inl (if isAB s8.1 s10.1 t then a ++ [t.Rate] else a)) (fun a => a) (fun i a => a.length ≤ i) (fun i a t ht hI => by
    have hlt := (List.getElem?_eq_some_iff.1 ht).1
    have h1 : decide ((i : Int) < list.length) = true := by simp [hlt]
    refine .inl ⟨_, rfl, ?_, ?_⟩
    · split
      · simp only [List.length_append, List.length_cons, List.length_nil]; omega
      · omega
    · simp only [M_spec_GroomDirectL4, h1, cond_true, geti_nat, ht, Option.bind_some, bnd, p_l1Least, p_l1MostT]
      rw [w64_eq (by omega) (by omega), grd_t (by omega)]
      unfold isAB
      cases loT t == s8.1 <;> cases hiT t == s10.1 <;> rfl) (fun a _ => by simp [M_spec_GroomDirectL4]) [] (Nat.le_refl _) (by omega)
  rw [walkL_flt] at this
  simpa [ratesAB] using this
def rowAB (list : List TTributary) (cap a b : Int) (acc : List (List Int)) : List (List Int) := if 0 < (ratesAB list a b).length then acc ++ [[a, b, unitsN (ratesAB list a b) cap]] else acc
theorem rowAB_len (list : List TTributary) (cap a b : Int) (acc : List (List Int)) : (rowAB list cap a b acc).length ≤ acc.length + 1 := by
  unfold rowAB; split <;> simp
def rowsA (list : List TTributary) (cap a : Int) (k : Nat) (acc : List (List Int)) : List (List Int) := (List.range k).foldl (fun acc (i : Nat) => rowAB list cap a (a + 1 + (i : Int)) acc) acc
theorem rowsA_len (list : List TTributary) (cap a : Int) (k : Nat) (acc : List (List Int)) : (rowsA list cap a k acc).length ≤ acc.length + k := by
  unfold rowsA
  induction k with
  | zero => simp
  | succ k ih =>
    rw [List.range_succ, List.foldl_append]
    simp only [List.foldl_cons, List.foldl_nil]
    have := rowAB_len list cap a (a + 1 + (k : Int)) (List.foldl (fun acc (i : Nat) => rowAB list cap a (a + 1 + (i : Int)) acc) acc (List.range k))
    omega
/-- a loop that counts up -/
theorem iter_up {A : Type} {f : Int × A → Option ((Int × A) ⊕ A)} (b0 : Int) (k : Nat) (g : Int → A → A) (I : Nat → A → Prop)
    (h1 : ∀ (i : Nat) a, i < k → I i a → f (b0 + (i : Int), a) = some (.inl (b0 + ((i + 1 : Nat) : Int), g (b0 + (i : Int)) a)) ∧ I (i + 1) (g (b0 + (i : Int)) a)) (h2 : ∀ a, I k a → f (b0 + (k : Int), a) = some (.inr a)) (a0 : A) (h0 : I 0 a0) (hk : k ≤ 1048576) :
    iter f N0 (b0, a0) = some ((List.range k).foldl (fun a (i : Nat) => g (b0 + (i : Int)) a) a0) := by
  have := iter_list (f := f) (List.range k) (fun i (a : A) => (b0 + (i : Int), a)) (fun i _ a => .inl (g (b0 + (i : Int)) a)) (fun a => a) I (fun i a x hx hI => by
    have hlt : i < k := by have := (List.getElem?_eq_some_iff.1 hx).1; simpa using this
    obtain ⟨g1, g2⟩ := h1 i a hlt hI
    exact .inl ⟨_, rfl, g2, g1⟩) (fun a hI => by
      rw [List.length_range] at hI ⊢
      exact h2 a hI) a0 h0 (by simp; omega)
  have e : b0 + ((0 : Nat) : Int) = b0 := by simp
  rw [e] at this
  rw [this, walkL_fold]
  congr 1
  have gen : ∀ (k : Nat) (a : A), ((List.range k).zipIdx 0).foldl (fun a p => g (b0 + (p.2 : Int)) a) a = (List.range k).foldl (fun a (i : Nat) => g (b0 + (i : Int)) a) a := by
    intro k
    induction k with
    | zero => intro a; rfl
    | succ k ih =>
      intro a
      rw [List.range_succ, List.zipIdx_append, List.foldl_append, List.foldl_append, ih]
      simp
  exact gen k a0
theorem ratesAB_len (list : List TTributary) (a b : Int) : (ratesAB list a b).length ≤ list.length := by
  unfold ratesAB; rw [List.length_map]; exact List.length_filter_le ..
theorem p_implL2 (list : List TTributary) (nodes cap : Int) (s8 : Int × List (List Int)) (hl : list.length ≤ 12) (h0 : 0 ≤ s8.1) (hn : nodes ≤ 8) (ha : s8.1 < nodes) (hs : s8.2.length ≤ 64) (a : Int) (hae : a = s8.1 + 1) :
    iter (M_impl_GroomDirectL2 list nodes cap s8) N0 (a, s8.2) = some (rowsA list cap s8.1 (nodes - (s8.1 + 1)).toNat s8.2) := by
  subst hae
  refine iter_up (f := M_impl_GroomDirectL2 list nodes cap s8) (s8.1 + 1) (nodes - (s8.1 + 1)).toNat (fun b acc => rowAB list cap s8.1 b acc) (fun i acc => acc.length ≤ 64 + i) (fun i acc hi hI => ?_) (fun acc hI => ?_) s8.2 (by omega) (by omega)
  · have h1 : decide (s8.1 + 1 + (i : Int) < nodes) = true := decide_eq_true (by omega)
    have hrl := ratesAB_len list s8.1 (s8.1 + 1 + (i : Int))
    refine ⟨?_, by have := rowAB_len list cap s8.1 (s8.1 + 1 + (i : Int)) acc; omega⟩
    simp only [M_impl_GroomDirectL2, h1, cond_true, p_implL3 list s8 (s8.1 + 1 + (i : Int), acc) (by omega), Option.bind_some, bnd]
    rw [w64_eq (n := s8.1 + 1 + (i : Int) + 1) (by omega) (by omega)]
    have e5 : s8.1 + 1 + (i : Int) + 1 = s8.1 + 1 + ((i + 1 : Nat) : Int) := by omega
    unfold rowAB
    by_cases hp : 0 < (ratesAB list s8.1 (s8.1 + 1 + (i : Int))).length
    · have h2 : decide ((0 : Int) < ((ratesAB list s8.1 (s8.1 + 1 + (i : Int))).length : Int)) = true := decide_eq_true (by omega)
      rw [if_pos hp, h2, cond_true]
      have hu := p_unitsI (ratesAB list s8.1 (s8.1 + 1 + (i : Int))) cap hp (by omega)
      obtain ⟨d, hd, hu⟩ := Option.bind_eq_some_iff.1 hu
      obtain ⟨m, hm, hu⟩ := Option.bind_eq_some_iff.1 hu
      rw [hd]
      simp only [Option.bind_some]
      rw [hm]
      simp only [Option.bind_some]
      rw [grd_t (by omega)]
      simp only [Option.some.injEq] at hu
      simp only [Option.bind_some, hu, e5]
    · have h2 : decide ((0 : Int) < ((ratesAB list s8.1 (s8.1 + 1 + (i : Int))).length : Int)) = false := decide_eq_false (by omega)
      rw [if_neg hp, h2, cond_false, e5]
  · have h1 : decide (s8.1 + 1 + (((nodes - (s8.1 + 1)).toNat : Nat) : Int) < nodes) = false := decide_eq_false (by omega)
    simp only [M_impl_GroomDirectL2, h1, cond_false]
theorem p_specL3 (list : List TTributary) (nodes cap : Int) (s8 : Int × List (List Int)) (hl : list.length ≤ 12) (h0 : 0 ≤ s8.1) (hn : nodes ≤ 8) (ha : s8.1 < nodes) (hs : s8.2.length ≤ 64) (a : Int) (hae : a = s8.1 + 1) :
    iter (M_spec_GroomDirectL3 list nodes cap s8) N0 (a, s8.2) = some (rowsA list cap s8.1 (nodes - (s8.1 + 1)).toNat s8.2) := by
  subst hae
  refine iter_up (f := M_spec_GroomDirectL3 list nodes cap s8) (s8.1 + 1) (nodes - (s8.1 + 1)).toNat (fun b acc => rowAB list cap s8.1 b acc) (fun i acc => acc.length ≤ 64 + i) (fun i acc hi hI => ?_) (fun acc hI => ?_) s8.2 (by omega) (by omega)
  · have h1 : decide (s8.1 + 1 + (i : Int) < nodes) = true := decide_eq_true (by omega)
    have hrl := ratesAB_len list s8.1 (s8.1 + 1 + (i : Int))
    refine ⟨?_, by have := rowAB_len list cap s8.1 (s8.1 + 1 + (i : Int)) acc; omega⟩
    simp only [M_spec_GroomDirectL3, h1, cond_true, p_specL4 list s8 (s8.1 + 1 + (i : Int), acc) (by omega), Option.bind_some, bnd]
    rw [w64_eq (n := s8.1 + 1 + (i : Int) + 1) (by omega) (by omega)]
    have e5 : s8.1 + 1 + (i : Int) + 1 = s8.1 + 1 + ((i + 1 : Nat) : Int) := by omega
    unfold rowAB
    by_cases hp : 0 < (ratesAB list s8.1 (s8.1 + 1 + (i : Int))).length
    · have h2 : decide ((0 : Int) < ((ratesAB list s8.1 (s8.1 + 1 + (i : Int))).length : Int)) = true := decide_eq_true (by omega)
      rw [if_pos hp, h2, cond_true]
      obtain ⟨o, ho, u, hu⟩ := p_unitsS (ratesAB list s8.1 (s8.1 + 1 + (i : Int))) cap (by omega)
      rw [ho]
      simp only [Option.bind_some]
      rw [hu]
      simp only [Option.bind_some]
      rw [grd_t (by omega)]
      simp only [Option.bind_some, e5]
    · have h2 : decide ((0 : Int) < ((ratesAB list s8.1 (s8.1 + 1 + (i : Int))).length : Int)) = false := decide_eq_false (by omega)
      rw [if_neg hp, h2, cond_false, e5]
  · have h1 : decide (s8.1 + 1 + (((nodes - (s8.1 + 1)).toNat : Nat) : Int) < nodes) = false := decide_eq_false (by omega)
    simp only [M_spec_GroomDirectL3, h1, cond_false]
def gdRows (list : List TTributary) (nodes cap : Int) : List (List Int) := (List.range nodes.toNat).foldl (fun acc (i : Nat) => rowsA list cap (0 + (i : Int)) (nodes - (0 + (i : Int) + 1)).toNat acc) []
theorem p_implL1 (list : List TTributary) (nodes cap : Int) (hl : list.length ≤ 12) (h0 : 0 ≤ nodes) (hn : nodes ≤ 8) : iter (M_impl_GroomDirectL1 list nodes cap) N0 (0, []) = some (gdRows list nodes cap) := by
  refine iter_up (f := M_impl_GroomDirectL1 list nodes cap) 0 nodes.toNat (fun a acc => rowsA list cap a (nodes - (a + 1)).toNat acc) (fun i acc => acc.length ≤ 8 * i) (fun i acc hi hI => ?_) (fun acc hI => ?_) [] (Nat.le_refl _) (by omega)
  · have h1 : decide ((0 : Int) + (i : Int) < nodes) = true := decide_eq_true (by omega)
    refine ⟨?_, ?_⟩
    · simp only [M_impl_GroomDirectL1, h1, cond_true]
      rw [w64_eq (n := 0 + (i : Int) + 1) (by omega) (by omega), p_implL2 list nodes cap (0 + (i : Int), acc) hl (by simp only; omega) hn (by simp only; omega) (by simp only; omega) _ rfl]
      simp only [Option.bind_some]
      rw [show (0 : Int) + (i : Int) + 1 = 0 + ((i + 1 : Nat) : Int) by omega]
    · have := rowsA_len list cap (0 + (i : Int)) (nodes - (0 + (i : Int) + 1)).toNat acc
      omega
  · have h1 : decide ((0 : Int) + ((nodes.toNat : Nat) : Int) < nodes) = false := decide_eq_false (by omega)
    simp only [M_impl_GroomDirectL1, h1, cond_false]
theorem p_specL2 (list : List TTributary) (nodes cap : Int) (hl : list.length ≤ 12) (h0 : 0 ≤ nodes) (hn : nodes ≤ 8) : iter (M_spec_GroomDirectL2 list nodes cap) N0 (0, []) = some (gdRows list nodes cap) := by
  refine iter_up (f := M_spec_GroomDirectL2 list nodes cap) 0 nodes.toNat (fun a acc => rowsA list cap a (nodes - (a + 1)).toNat acc) (fun i acc => acc.length ≤ 8 * i) (fun i acc hi hI => ?_) (fun acc hI => ?_) [] (Nat.le_refl _) (by omega)
  · have h1 : decide ((0 : Int) + (i : Int) < nodes) = true := decide_eq_true (by omega)
    refine ⟨?_, ?_⟩
    · simp only [M_spec_GroomDirectL2, h1, cond_true]
      rw [w64_eq (n := 0 + (i : Int) + 1) (by omega) (by omega), p_specL3 list nodes cap (0 + (i : Int), acc) hl (by simp only; omega) hn (by simp only; omega) (by simp only; omega) _ rfl]
      simp only [Option.bind_some]
      rw [show (0 : Int) + (i : Int) + 1 = 0 + ((i + 1 : Nat) : Int) by omega]
    · have := rowsA_len list cap (0 + (i : Int)) (nodes - (0 + (i : Int) + 1)).toNat acc
      omega
  · have h1 : decide ((0 : Int) + ((nodes.toNat : Nat) : Int) < nodes) = false := decide_eq_false (by omega)
    simp only [M_spec_GroomDirectL2, h1, cond_false]
def gdP (list : List TTributary) (nodes cap : Int) : List (List Int) × Bool := if tribs list nodes && wi cap 1 10000 && !list.any fun t => decide (cap < t.Rate) then (gdRows list nodes cap, true) else ([], false)
theorem tribs_b {list : List TTributary} {n : Int} (h : tribs list n = true) : 2 ≤ n ∧ n ≤ 8 ∧ list.length ≤ 12 := by
  unfold tribs at h
  simp only [Bool.and_eq_true, decide_eq_true_eq] at h
  have := h.1.1
  unfold wi at this
  simp only [Bool.and_eq_true, decide_eq_true_eq] at this
  omega
theorem p_impl_GroomDirect (list : List TTributary) (nodes cap : Int) (hl : list.length ≤ 1048576) : M_impl_GroomDirect list nodes cap = some (gdP list nodes cap) := by
  unfold M_impl_GroomDirect gdP
  simp only [p_impl_IsValidTributaries list nodes (by omega), Option.bind_some, p_within, p_ContainsFunc_Tributary list (fun x0 => M_impl_GroomDirect_c1 x0 cap) (fun t => decide (cap < t.Rate)) (fun t => rfl) (by omega)]
  rcases bt (tribs list nodes) with e | e
  · obtain ⟨b1, b2, b3⟩ := tribs_b e
    rcases bt (wi cap 1 10000) with e2 | e2
    · rcases bt (list.any fun t => decide (cap < t.Rate)) with e3 | e3
      · simp [e, e2, e3]
      · simp only [e, e2, e3, Bool.not_true, cond_false, Option.bind_some, p_implL1 list nodes cap b3 (by omega) b2, Bool.and_self, Bool.not_false, if_true]
    · simp [e, e2]
  · simp [e]
theorem p_spec_GroomDirect (list : List TTributary) (nodes cap : Int) (hl : list.length ≤ 1048576) : M_spec_GroomDirect list nodes cap = some (gdP list nodes cap) := by
  unfold M_spec_GroomDirect gdP
  simp only [p_spec_IsValidTributaries list nodes (by omega), Option.bind_some, p_l1In]
  rcases bt (tribs list nodes) with e | e
  · obtain ⟨b1, b2, b3⟩ := tribs_b e
    rcases bt (wi cap 1 10000) with e2 | e2
    · simp only [e, e2, Bool.not_true, cond_false, Option.bind_some]
      rw [iter_any (f := M_spec_GroomDirectL1 list cap) list (fun t => decide (cap < t.Rate)) (.inr ([], false)) (.inl ()) (fun i x hx => by
        have hlt := (List.getElem?_eq_some_iff.1 hx).1
        have h1 : decide ((i : Int) < list.length) = true := by simp [hlt]
        simp only [M_spec_GroomDirectL1, h1, cond_true, geti_nat, hx, Option.bind_some]
        rw [w64_eq (by omega) (by omega)]
        cases decide (cap < x.Rate) <;> rfl) (by simp [M_spec_GroomDirectL1]) (by omega)]
      rcases bt (list.any fun t => decide (cap < t.Rate)) with e3 | e3
      · simp [e3]
      · simp only [e3, Bool.false_eq_true, if_false, Option.bind_some, p_specL2 list nodes cap b3 (by omega) b2, Bool.and_self, Bool.not_false, if_true]
    · simp [e, e2]
  · simp [e]
theorem zr_GroomDirect (list : List TTributary) (nodes cap : Int) (hl : list.length ≤ 1048576) : z_IntSS (gdP list nodes cap).1 ≤ 1048576 := by
  unfold gdP
  split
  · rename_i h
    simp only [Bool.and_eq_true] at h
    obtain ⟨b1, b2, b3⟩ := tribs_b h.1.1
    have key : ∀ r ∈ gdRows list nodes cap, r.length ≤ 3 := by
      have h1 : ∀ (a b : Int) (acc : List (List Int)), (∀ r ∈ acc, r.length ≤ 3) → ∀ r ∈ rowAB list cap a b acc, r.length ≤ 3 := by
        intro a b acc h r hr
        unfold rowAB at hr
        split at hr
        · rcases List.mem_append.1 hr with hr | hr
          · exact h r hr
          · simp only [List.mem_singleton] at hr; subst hr; simp
        · exact h r hr
      have h2 : ∀ (a : Int) (k : Nat) (acc : List (List Int)), (∀ r ∈ acc, r.length ≤ 3) → ∀ r ∈ rowsA list cap a k acc, r.length ≤ 3 := by
        intro a k
        induction k with
        | zero => intro acc h; simpa [rowsA] using h
        | succ k ih =>
          intro acc h
          unfold rowsA
          rw [List.range_succ, List.foldl_append]
          simp only [List.foldl_cons, List.foldl_nil]
          exact h1 _ _ _ (ih acc h)
      have h3 : ∀ (k : Nat), ∀ r ∈ (List.range k).foldl (fun acc (i : Nat) => rowsA list cap (0 + (i : Int)) (nodes - (0 + (i : Int) + 1)).toNat acc) [], r.length ≤ 3 := by
        intro k
        induction k with
        | zero => simp
        | succ k ih =>
          rw [List.range_succ, List.foldl_append]
          simp only [List.foldl_cons, List.foldl_nil]
          exact h2 _ _ _ ih
      exact h3 nodes.toNat
    have hlen : (gdRows list nodes cap).length ≤ 64 := by
      have h3 : ∀ (k : Nat), k ≤ 8 → ((List.range k).foldl (fun acc (i : Nat) => rowsA list cap (0 + (i : Int)) (nodes - (0 + (i : Int) + 1)).toNat acc) []).length ≤ 8 * k := by
        intro k
        induction k with
        | zero => simp
        | succ k ih =>
          intro hk
          rw [List.range_succ, List.foldl_append]
          simp only [List.foldl_cons, List.foldl_nil]
          have := rowsA_len list cap (0 + (k : Int)) (nodes - (0 + (k : Int) + 1)).toNat ((List.range k).foldl (fun acc (i : Nat) => rowsA list cap (0 + (i : Int)) (nodes - (0 + (i : Int) + 1)).toNat acc) [])
          have := ih (by omega)
          omega
      have := h3 nodes.toNat (by omega)
      unfold gdRows
      omega
    have hsum : ∀ (l : List (List Int)), (∀ r ∈ l, r.length ≤ 3) → (l.map fun x => z_IntS x).sum ≤ 3 * l.length := by
      intro l
      induction l with
      | nil => simp
      | cons x l ih =>
        intro h
        have := ih fun r hr => h r (by simp [hr])
        have hx := h x (by simp)
        have : z_IntS x = x.length := rfl
        simp only [List.map_cons, List.sum_cons, List.length_cons]
        omega
    have := hsum _ key
    unfold z_IntSS
    simp only
    omega
  · unfold z_IntSS; simp
end Vs

namespace Vs
open Go
/-! ### draws -/
structure CurOk (c : Tl1Cur) (m : Nat) : Prop where
  by8 : ∀ x ∈ c.code, 0 ≤ x ∧ x ≤ 255
  len : c.code.length ≤ 65536
  at0 : 0 ≤ c.atF
  atm : c.atF ≤ (m : Int)
theorem and255 (x : Int) : 0 ≤ bits .and .u64 x 255 ∧ bits .and .u64 x 255 ≤ 255 := by
  have h : (BitVec.ofInt (IntKind.bits .u64) x &&& BitVec.ofInt (IntKind.bits .u64) 255).toNat ≤ 255 := by
    rw [BitVec.toNat_and]
    exact Nat.le_trans Nat.and_le_right (by decide)
  unfold bits
  simp only
  generalize (BitVec.ofInt (IntKind.bits .u64) x &&& BitVec.ofInt (IntKind.bits .u64) 255).toNat = k at h
  have : IntKind.wrap .u64 (k : Int) = (k : Int) := by
    unfold IntKind.wrap
    simp [IntKind.bits, IntKind.signed]
    omega
  rw [this]; omega
theorem p_next {c : Tl1Cur} {m : Nat} (h : CurOk c m) (hm : m ≤ 1000000000000) : ∃ b c', M_spec_l1Cur_nextM1 c = some (b, c') ∧ 0 ≤ b ∧ b ≤ 255 ∧ CurOk c' (m + 1) := by
  obtain ⟨h1, h2, h3, h4⟩ := h
  have hb : ∃ b, (cond (decide (c.atF < (c.code.length : Int))) ((geti c.code c.atF).bind fun yZ2 => some (IntKind.wrap .i64 yZ2)) (some 0) : Option Int) = some b ∧ 0 ≤ b ∧ b ≤ 255 := by
    by_cases e : c.atF < (c.code.length : Int)
    · rw [decide_eq_true e, cond_true]
      have hlt : c.atF.toNat < c.code.length := by omega
      have hg : geti c.code c.atF = some c.code[c.atF.toNat] := by
        unfold geti; rw [if_pos h3]; exact List.getElem?_eq_getElem hlt
      have := h1 _ (List.getElem_mem hlt)
      rw [hg]
      refine ⟨c.code[c.atF.toNat], ?_, this.1, this.2⟩
      simp only [Option.bind_some]
      rw [w64_eq (by omega) (by omega)]
    · rw [decide_eq_false e, cond_false]; exact ⟨0, rfl, by omega, by omega⟩
  obtain ⟨b, b1, b2, b3⟩ := hb
  unfold M_spec_l1Cur_nextM1
  rw [b1]
  simp only [Option.bind_some]
  rw [w64_eq (n := c.atF + 1) (by omega) (by omega)]
  by_cases e : c.atF + 1 ≤ (c.code.length : Int)
  · rw [decide_eq_true e, cond_true]
    exact ⟨_, _, rfl, b2, b3, ⟨h1, h2, by simp only; omega, by simp only; omega⟩⟩
  · rw [decide_eq_false e, cond_false]
    have h5 := and255 (Int.fdiv (IntKind.wrap .u64 ((IntKind.wrap .u64 ((IntKind.wrap .u64 (c.seed * 6364136223846793005)) + (IntKind.wrap .u64 b))) + 897897)) (2 ^ (min (Int.toNat 40) (IntKind.bits .u64))))
    refine ⟨_, _, rfl, ?_, ?_, ⟨h1, h2, by simp only; omega, by simp only; omega⟩⟩
    · rw [w64_eq (by omega) (by omega)]; exact h5.1
    · rw [w64_eq (by omega) (by omega)]; exact h5.2
theorem p_pick {c : Tl1Cur} {m : Nat} (n : Int) (h : CurOk c m) (hm : m ≤ 100000000000) : ∃ x c', M_spec_l1Cur_pickM1 n c = some (x, c') ∧ 0 ≤ x ∧ (x < n ∨ x = 0) ∧ CurOk c' (m + 2) := by
  unfold M_spec_l1Cur_pickM1
  by_cases e : n ≤ 1
  · rw [decide_eq_true e, cond_true]
    exact ⟨0, c, rfl, by omega, .inr rfl, ⟨h.by8, h.len, h.at0, by have := h.atm; omega⟩⟩
  · rw [decide_eq_false e, cond_false]
    obtain ⟨b, c1, g1, g2, g3, g4⟩ := p_next h (by omega)
    rw [g1]
    simp only [Option.bind_some]
    by_cases e2 : 200 < n
    · rw [decide_eq_true e2, cond_true]
      obtain ⟨b', c2, k1, k2, k3, k4⟩ := p_next g4 (by omega)
      rw [k1]
      simp only [Option.bind_some]
      rw [grd_t (by omega)]
      simp only [Option.bind_some]
      refine ⟨_, _, rfl, ?_, .inl ?_, k4⟩
      · rw [w64_eq (n := b * 256) (by omega) (by omega), w64_eq (by omega) (by omega)]
        exact Int.tmod_nonneg _ (by omega)
      · exact Int.tmod_lt_of_pos _ (by omega)
    · rw [decide_eq_false e2, cond_false, grd_t (by omega)]
      simp only [Option.bind_some]
      exact ⟨_, _, rfl, Int.tmod_nonneg _ g2, .inl (Int.tmod_lt_of_pos _ (by omega)), ⟨g4.by8, g4.len, g4.at0, by have := g4.atm; omega⟩⟩
theorem p_among2 {c : Tl1Cur} {m : Nat} (l : List Int) (h : CurOk c m) (hm : m ≤ 100000000000) (hl : 0 < l.length) : ∃ x c', M_spec_l1Cur_amongM2 c l = some (x, c', l) ∧ x ∈ l ∧ CurOk c' (m + 2) := by
  obtain ⟨i, c1, g1, g2, g3, g4⟩ := p_pick (l.length : Int) h hm
  unfold M_spec_l1Cur_amongM2
  rw [g1]
  simp only [Option.bind_some]
  have hi : i.toNat < l.length := by omega
  rw [grd_t (by omega)]
  simp only [Option.bind_some, List.getElem?_eq_getElem hi]
  exact ⟨_, _, rfl, List.getElem_mem hi, g4⟩
theorem p_among1 {c : Tl1Cur} {m : Nat} (k : Nat) (l : List Int) (h : CurOk c m) (hm : m ≤ 100000000000) (hk : 0 < k) (hl : k ≤ l.length) : ∃ x c', M_spec_l1Cur_amongM1 0 k c l = some (x, c', l) ∧ x ∈ l ∧ CurOk c' (m + 2) := by
  obtain ⟨i, c1, g1, g2, g3, g4⟩ := p_pick (k : Int) h hm
  unfold M_spec_l1Cur_amongM1
  rw [g1]
  simp only [Option.bind_some]
  have hi : i.toNat < l.length := by omega
  rw [grd_t (by omega)]
  simp only [Option.bind_some, Nat.zero_add, List.getElem?_eq_getElem hi]
  exact ⟨_, _, rfl, List.getElem_mem hi, g4⟩
theorem p_nodes18 {c : Tl1Cur} {m : Nat} (h : CurOk c m) (hm : m ≤ 10000000000) : ∃ x c', M_spec_l1Cur_nodes18M1 c = some (x, c') ∧ 1 ≤ x ∧ x ≤ 9 ∧ CurOk c' (m + 4) := by
  unfold M_spec_l1Cur_nodes18M1
  obtain ⟨i, c1, g1, g2, g3, g4⟩ := p_pick 40 h (by omega)
  rw [g1]
  simp only [bnd, Option.bind_some]
  have hq : 0 ≤ Int.tdiv i 20 ∧ Int.tdiv i 20 ≤ 1 := by rw [Int.tdiv_eq_ediv_of_nonneg g2]; omega
  rw [w64_eq (n := Int.tdiv i 20) (by omega) (by omega), w64_eq (n := 6 + Int.tdiv i 20) (by omega) (by omega), grd_t (by omega), grd_t ⟨trivial, by omega, trivial, by omega⟩]
  simp only [Option.bind_some]
  obtain ⟨x, c2, k1, k2, k3⟩ := p_among1 (6 + Int.tdiv i 20).toNat [2, 3, 4, 5, 6, 8, 1, 9] g4 (by omega) (by omega) (by simp; omega)
  rw [k1]
  simp only [Option.bind_some]
  refine ⟨x, c2, rfl, ?_, ?_, k3⟩
  · simp at k2; omega
  · simp at k2; omega
theorem p_l1MostI (a b : Int) : ∃ r, M_spec_l1Most a b = some r ∧ b ≤ r ∧ a ≤ r := by
  unfold M_spec_l1Most
  by_cases h : b < a
  · rw [decide_eq_true h, cond_true]; exact ⟨a, rfl, by omega, by omega⟩
  · rw [decide_eq_false h, cond_false]; exact ⟨b, rfl, by omega, by omega⟩
theorem p_tributaries {c : Tl1Cur} {m : Nat} (n : Int) (hn : n ≤ 9) (h : CurOk c m) (hm : m ≤ 1000000000) : ∃ l c', M_spec_l1Cur_tributariesM1 n c = some (l, c') ∧ l.length ≤ 30 ∧ CurOk c' (m + 200) := by
  unfold M_spec_l1Cur_tributariesM1
  obtain ⟨r, r1, r2, r3⟩ := p_l1MostI n 2
  have r4 : r ≤ 9 := by
    unfold M_spec_l1Most at r1
    by_cases e : (2 : Int) < n
    · rw [decide_eq_true e, cond_true] at r1; cases r1; exact hn
    · rw [decide_eq_false e, cond_false] at r1; cases r1; omega
  obtain ⟨k, c1, g1, g2, g3, g4⟩ := p_pick 8 h (by omega)
  simp only [r1, g1, Option.bind_some]
  obtain ⟨o, o1, o2, o3⟩ := iter_inv (f := M_spec_l1Cur_tributariesM1L1 r) (fun s => 0 ≤ s.1 ∧ s.1 ≤ 7 ∧ (s.2.1.length : Int) ≤ 7 - s.1 ∧ CurOk s.2.2 (m + 2 + 6 * (7 - s.1.toNat))) (fun s => s.1.toNat) (fun o => o.1.length ≤ 7 ∧ CurOk o.2 (m + 44)) (fun s hI => by
    obtain ⟨j, l, cc⟩ := s
    obtain ⟨i1, i2, i3, i4⟩ := hI
    simp only at i1 i2 i3 i4
    by_cases hj : 0 < j
    · left
      obtain ⟨a, d1, a1, a2, a3, a4⟩ := p_pick r i4 (by omega)
      obtain ⟨b, d2, b1, b2, b3, b4⟩ := p_pick (r - 1) a4 (by omega)
      obtain ⟨x, d3, x1, x2, x3⟩ := p_among2 [1, 2, 3, 4, 5, 6, 7, 10] b4 (by omega) (by simp)
      refine ⟨_, by
        simp only [M_spec_l1Cur_tributariesM1L1, decide_eq_true hj, cond_true, a1, Option.bind_some]
        rw [w64_eq (n := r - 1) (by omega) (by omega), b1]
        simp only [Option.bind_some]
        rw [grd_t (by omega)]
        simp only [Option.bind_some, bnd, x1]
        rw [grd_t (by omega), w64_eq (n := j - 1) (by omega) (by omega)]
        simp only [Option.bind_some]
        rfl, ⟨by simp only; omega, by simp only; omega, by simp only [List.length_append, List.length_cons, List.length_nil]; omega, ⟨x3.by8, x3.len, x3.at0, by have := x3.atm; simp only; omega⟩⟩, by simp only; omega⟩
    · right
      refine ⟨(l, cc), by simp only [M_spec_l1Cur_tributariesM1L1, decide_eq_false hj, cond_false], by simp only; omega, ⟨i4.by8, i4.len, i4.at0, by have := i4.atm; simp only; omega⟩⟩) N0 (k, [], c1) ⟨g2, by omega, by simp; omega, ⟨g4.by8, g4.len, g4.at0, by have := g4.atm; simp only; omega⟩⟩ (N0_lt (by simp only; omega))
  rw [o1]
  simp only [Option.bind_some]
  obtain ⟨q, c3, q1, q2, q3, q4⟩ := p_pick 40 o3 (by omega)
  rw [q1]
  simp only [Option.bind_some]
  have w : ∀ {d : Tl1Cur} {a b : Nat}, a ≤ b → CurOk d a → CurOk d b := fun hab hd => ⟨hd.by8, hd.len, hd.at0, by have := hd.atm; omega⟩
  rcases bt (q == 0) with e | e
  · obtain ⟨x, d3, x1, x2, x3⟩ := p_among2 [0, 8, -1] q4 (by omega) (by simp)
    rw [e, cond_true]
    simp only [bnd, x1, Option.bind_some]
    rw [grd_t (by omega)]
    exact ⟨_, _, rfl, by simp only [List.length_append, List.length_cons, List.length_nil]; omega, w (by omega) x3⟩
  · rw [e, cond_false]
    rcases bt (q == 1) with e | e
    · obtain ⟨x, d3, x1, x2, x3⟩ := p_among2 [0, 1001, 1000] q4 (by omega) (by simp)
      rw [e, cond_true]
      simp only [bnd, x1, Option.bind_some]
      rw [grd_t (by omega)]
      exact ⟨_, _, rfl, by simp only [List.length_append, List.length_cons, List.length_nil]; omega, w (by omega) x3⟩
    · rw [e, cond_false]
      rcases bt (q == 2) with e | e
      · rw [e, cond_true]
        obtain ⟨u, u1, u2, u3⟩ := iter_inv (f := M_spec_l1Cur_tributariesM1L2) (fun s => s.1.length ≤ 13 ∧ CurOk s.2 (m + 46 + 2 * s.1.length)) (fun s => 14 - s.1.length) (fun o => o.1.length ≤ 13 ∧ CurOk o.2 (m + 46 + 30)) (fun s hI => by
          obtain ⟨l, cc⟩ := s
          obtain ⟨i1, i2⟩ := hI
          simp only at i1 i2
          obtain ⟨a, d1, a1, a2, a3, a4⟩ := p_pick 2 i2 (by omega)
          simp only [M_spec_l1Cur_tributariesM1L2, a1, Option.bind_some]
          rw [w64_eq (n := 12 + a) (by omega) (by omega)]
          by_cases hl : (l.length : Int) < 12 + a
          · left
            rw [decide_eq_true hl, cond_true]
            simp only [bnd]
            rw [grd_t (by omega)]
            refine ⟨_, rfl, ⟨by simp only [List.length_append, List.length_cons, List.length_nil]; omega, w (by simp only [List.length_append, List.length_cons, List.length_nil]; omega) a4⟩, by simp only [List.length_append, List.length_cons, List.length_nil]; omega⟩
          · right
            rw [decide_eq_false hl, cond_false]
            exact ⟨_, rfl, i1, w (by omega) a4⟩) N0 (o.1, c3) ⟨by simp only; omega, w (by omega) q4⟩ (N0_lt (by simp only; omega))
        rw [u1]
        exact ⟨_, _, rfl, by simp only; omega, w (by omega) u3⟩
      · rw [e, cond_false]
        exact ⟨_, _, rfl, by simp only; omega, w (by omega) q4⟩
theorem p_DrawGroomDirect (code : List Int) (h8 : ∀ x ∈ code, 0 ≤ x ∧ x ≤ 255) (hl : code.length ≤ 65536) : ∃ l n c, M_spec_DrawGroomDirect code = some (l, n, c) ∧ l.length ≤ 30 := by
  unfold M_spec_DrawGroomDirect
  obtain ⟨n, c1, g1, g2, g3, g4⟩ := p_nodes18 (c := ⟨code, 0, 0⟩) (m := 0) ⟨h8, hl, Int.le_refl _, Int.le_refl _⟩ (by omega)
  rw [g1]
  simp only [Option.bind_some]
  obtain ⟨l, c2, k1, k2, k3⟩ := p_tributaries n g3 g4 (by omega)
  rw [k1]
  simp only [Option.bind_some, bnd]
  obtain ⟨x, c3, x1, _, _⟩ := p_among2 [10, 10, 12, 20, 1000, 5, 0] k3 (by omega) (by simp)
  rw [x1]
  exact ⟨_, _, _, rfl, k2⟩
end Vs

namespace Vs
open Go
/-! ### direct grooming: enough units, and no more than tributaries -/
theorem sum_set : ∀ (l : List Int) (i : Nat) (v : Int), i < l.length → (l.set i v).sum = l.sum - l.getD i 0 + v
  | [], i, v, h => by simp at h
  | x :: l, 0, v, h => by simp; omega
  | x :: l, i + 1, v, h => by
    have := sum_set l i v (by simpa using h)
    simp only [List.set_cons_succ, List.sum_cons, List.getD_cons_succ] at this ⊢
    omega
theorem sum_le {l : List Int} (h : ∀ x ∈ l, 0 ≤ x) : 0 ≤ l.sum := by
  induction l with
  | nil => simp
  | cons x l ih =>
    have := ih fun y hy => h y (by simp [hy])
    have := h x (by simp)
    simp only [List.sum_cons]; omega
def PkS (cap : Int) (s : Int) (rooms : List Int) : Prop := (∀ x ∈ rooms, 0 ≤ x ∧ x ≤ cap) ∧ rooms.sum + s = cap * rooms.length
theorem pks_step {rates : List Int} {cap s : Int} {a : List Int × List Int} {y : Int} (hc : cap ≤ 10000) (hr : 0 ≤ rates.getD y.toNat 0 ∧ rates.getD y.toNat 0 ≤ cap) (h : PkS cap s a.2) : PkS cap (s + rates.getD y.toNat 0) (pstep rates cap a y).2 := by
  obtain ⟨h1, h2⟩ := h
  have e : (pstep rates cap a y).2 = (room1 cap a.2 (rates.getD y.toNat 0)).set (fitAt a.2 (rates.getD y.toNat 0)) (IntKind.wrap .i64 ((room1 cap a.2 (rates.getD y.toNat 0)).getD (fitAt a.2 (rates.getD y.toNat 0)) 0 - rates.getD y.toNat 0)) := rfl
  generalize rates.getD y.toNat 0 = r at hr e ⊢
  have hfl := fitAt_lt cap a.2 r
  have hfle := fitAt_le a.2 r
  have hR : (∀ x ∈ room1 cap a.2 r, 0 ≤ x ∧ x ≤ cap) ∧ (room1 cap a.2 r).sum + s = cap * (room1 cap a.2 r).length ∧ r ≤ (room1 cap a.2 r).getD (fitAt a.2 r) 0 := by
    unfold room1
    by_cases hf : fitAt a.2 r = a.2.length
    · rw [if_pos hf]
      refine ⟨fun x hx => ?_, ?_, ?_⟩
      · rcases List.mem_append.1 hx with hx | hx
        · exact h1 x hx
        · simp only [List.mem_singleton] at hx; omega
      · simp only [List.sum_append, List.sum_cons, List.sum_nil, List.length_append, List.length_cons, List.length_nil]
        have : cap * ((a.2.length + (0 + 1) : Nat) : Int) = cap * a.2.length + cap := by push_cast; rw [Int.mul_add]; omega
        rw [this]; omega
      · rw [hf, List.getD_eq_getElem?_getD, List.getElem?_append_right (Nat.le_refl _), Nat.sub_self]; simp; omega
    · rw [if_neg hf]
      refine ⟨h1, h2, ?_⟩
      have hlt : fitAt a.2 r < a.2.length := by omega
      have hp : decide (r ≤ a.2[fitAt a.2 r]) = true := List.findIdx_getElem (w := hlt)
      rw [List.getD_eq_getElem?_getD, List.getElem?_eq_getElem hlt]
      simpa using hp
  obtain ⟨R1, R2, R3⟩ := hR
  generalize room1 cap a.2 r = R at *
  have hm : R.getD (fitAt a.2 r) 0 ∈ R := by
    rw [List.getD_eq_getElem?_getD, List.getElem?_eq_getElem hfl]; exact List.getElem_mem hfl
  have hb := R1 _ hm
  rw [w64_eq (by omega) (by omega)] at e
  refine ⟨fun x hx => ?_, ?_⟩
  · rw [e] at hx
    rcases List.mem_or_eq_of_mem_set hx with hx | rfl
    · exact R1 x hx
    · omega
  · rw [e, sum_set _ _ _ hfl, List.length_set]; omega
theorem pks_fold {rates : List Int} {cap : Int} (hc : cap ≤ 10000) : ∀ (ord : List Int) (s : Int) (a : List Int × List Int), (∀ y ∈ ord, 0 ≤ rates.getD y.toNat 0 ∧ rates.getD y.toNat 0 ≤ cap) → PkS cap s a.2 →
    PkS cap (s + (ord.map fun y => rates.getD y.toNat 0).sum) (ord.foldl (pstep rates cap) a).2
  | [], s, a, _, h => by simpa using h
  | y :: ys, s, a, hv, h => by
    rw [List.foldl_cons]
    have := pks_fold hc ys (s + rates.getD y.toNat 0) _ (fun z hz => hv z (by simp [hz])) (pks_step hc (hv y (by simp)) h)
    simp only [List.map_cons, List.sum_cons]
    rw [← Int.add_assoc]; exact this
theorem dord_sum (rates : List Int) (g : Int → Int) : ∀ m, ((dord rates m).map g).sum = ((List.range m).map fun i : Nat => g (i : Int)).sum
  | 0 => by simp [dord]
  | m + 1 => by
    have e : dord rates (m + 1) = insAt rates (dord rates m) ((dord rates m).length : Int) := by unfold dord; rw [List.range_succ, List.foldl_append]; rfl
    obtain ⟨hl, hv⟩ := dord_ok rates m m (Nat.le_refl _)
    have ih := dord_sum rates g m
    rw [e, List.range_succ, List.map_append, List.sum_append, ← ih]
    unfold insAt
    have : ((dord rates m).map g).sum = (((dord rates m).take (atp rates (dord rates m) ((dord rates m).length : Int) (dord rates m).length)).map g).sum + (((dord rates m).drop (atp rates (dord rates m) ((dord rates m).length : Int) (dord rates m).length)).map g).sum := by
      rw [← List.sum_append, ← List.map_append, List.take_append_drop]
    rw [this, List.map_append, List.sum_append, List.map_cons, List.sum_cons, hl]
    simp only [List.map_cons, List.map_nil, List.sum_cons, List.sum_nil]
    omega
theorem range_sum : ∀ (rates : List Int), ((List.range rates.length).map fun i : Nat => rates.getD ((i : Int).toNat) 0).sum = rates.sum
  | [] => by simp
  | x :: xs => by
    have ih := range_sum xs
    rw [List.length_cons, List.range_succ_eq_map, List.map_cons, List.map_map, List.sum_cons, List.sum_cons]
    simp only [Int.toNat_natCast, List.getD_cons_zero] at ih ⊢
    rw [← ih]
    congr 1
theorem units_enough {rates : List Int} {cap : Int} (hc : cap ≤ 10000) (hr : ∀ r ∈ rates, 0 ≤ r ∧ r ≤ cap) : rates.sum ≤ unitsN rates cap * cap := by
  obtain ⟨hl, hv⟩ := dord_ok rates rates.length rates.length (Nat.le_refl _)
  have h := pks_fold (rates := rates) (cap := cap) hc (dord rates rates.length) 0 (List.replicate rates.length 0, []) (fun y hy => by
    have := hv y hy
    have hlt : y.toNat < rates.length := by omega
    rw [List.getD_eq_getElem?_getD, List.getElem?_eq_getElem hlt]
    exact hr _ (List.getElem_mem hlt)) ⟨by simp, by simp⟩
  obtain ⟨h1, h2⟩ := h
  rw [dord_sum rates (fun y => rates.getD y.toNat 0), range_sum] at h2
  have := sum_le fun x hx => (h1 x hx).1
  have e : (List.foldl (pstep rates cap) (List.replicate rates.length 0, []) (dord rates rates.length)).2 = (packR rates cap (dord rates rates.length)).2 := rfl
  rw [e] at h2 this
  unfold unitsN
  rw [Int.mul_comm]
  omega
/-! the rows -/
def cntN (l : List TTributary) (a b : Int) : Nat := (ratesAB l a b).length
def cntRow (l : List TTributary) (row : List Int) : Nat := match row with | a :: b :: _ => cntN l a b | _ => 0
def totR (l : List TTributary) (rows : List (List Int)) : Nat := (rows.map (cntRow l)).sum
def RowOkD (l : List TTributary) (cap : Int) (row : List Int) : Prop := ∃ a b : Int, a < b ∧ row = [a, b, unitsN (ratesAB l a b) cap] ∧ 0 < cntN l a b
theorem rowAB_tot (l : List TTributary) (cap a b : Int) (acc : List (List Int)) : totR l (rowAB l cap a b acc) = totR l acc + cntN l a b := by
  unfold rowAB totR
  split
  · simp [cntRow]
  · rename_i h; unfold cntN; omega
theorem rowAB_ok {l : List TTributary} {cap a b : Int} {acc : List (List Int)} (hab : a < b) (h : ∀ r ∈ acc, RowOkD l cap r) : ∀ r ∈ rowAB l cap a b acc, RowOkD l cap r := by
  intro r hr
  unfold rowAB at hr
  split at hr
  · rename_i hp
    rcases List.mem_append.1 hr with hr | hr
    · exact h r hr
    · simp only [List.mem_singleton] at hr; subst hr; exact ⟨a, b, hab, rfl, hp⟩
  · exact h r hr
theorem rowsA_all (l : List TTributary) (cap a : Int) (acc : List (List Int)) (h : ∀ r ∈ acc, RowOkD l cap r) : ∀ k, (∀ r ∈ rowsA l cap a k acc, RowOkD l cap r) ∧ totR l (rowsA l cap a k acc) = totR l acc + ((List.range k).map fun i : Nat => cntN l a (a + 1 + (i : Int))).sum
  | 0 => by simpa [rowsA] using h
  | k + 1 => by
    obtain ⟨g1, g2⟩ := rowsA_all l cap a acc h k
    have e : rowsA l cap a (k + 1) acc = rowAB l cap a (a + 1 + (k : Int)) (rowsA l cap a k acc) := by unfold rowsA; rw [List.range_succ, List.foldl_append]; rfl
    rw [e]
    refine ⟨rowAB_ok (by omega) g1, ?_⟩
    rw [rowAB_tot, g2, List.range_succ, List.map_append, List.sum_append]
    simp; omega
def S2 (nodes : Int) (f : Int → Int → Nat) : Nat := ((List.range nodes.toNat).map fun i : Nat => ((List.range (nodes - (0 + (i : Int) + 1)).toNat).map fun k : Nat => f (0 + (i : Int)) (0 + (i : Int) + 1 + (k : Int))).sum).sum
theorem gdRows_all (l : List TTributary) (nodes cap : Int) : (∀ r ∈ gdRows l nodes cap, RowOkD l cap r) ∧ totR l (gdRows l nodes cap) = S2 nodes (cntN l) := by
  have key : ∀ k : Nat, (∀ r ∈ (List.range k).foldl (fun acc (i : Nat) => rowsA l cap (0 + (i : Int)) (nodes - (0 + (i : Int) + 1)).toNat acc) [], RowOkD l cap r) ∧
      totR l ((List.range k).foldl (fun acc (i : Nat) => rowsA l cap (0 + (i : Int)) (nodes - (0 + (i : Int) + 1)).toNat acc) []) = ((List.range k).map fun i : Nat => ((List.range (nodes - (0 + (i : Int) + 1)).toNat).map fun k : Nat => cntN l (0 + (i : Int)) (0 + (i : Int) + 1 + (k : Int))).sum).sum := by
    intro k
    induction k with
    | zero => simp [totR]
    | succ k ih =>
      rw [List.range_succ, List.foldl_append, List.map_append, List.sum_append]
      simp only [List.foldl_cons, List.foldl_nil, List.map_cons, List.map_nil, List.sum_cons, List.sum_nil, Nat.add_zero]
      obtain ⟨g1, g2⟩ := rowsA_all l cap (0 + (k : Int)) _ ih.1 (nodes - (0 + (k : Int) + 1)).toNat
      exact ⟨g1, by rw [g2, ih.2]⟩
  exact key nodes.toNat
theorem sum_ind (c : Nat → Nat) (j : Nat) : ∀ n, (∀ i, i ≠ j → c i = 0) → ((List.range n).map c).sum = if j < n then c j else 0
  | 0, _ => by simp
  | n + 1, h => by
    rw [List.range_succ, List.map_append, List.sum_append, sum_ind c j n h]
    simp only [List.map_cons, List.map_nil, List.sum_cons, List.sum_nil, Nat.add_zero]
    by_cases e : n = j
    · subst e; rw [if_neg (by omega), if_pos (by omega)]; omega
    · rw [h n e]
      by_cases e2 : j < n
      · rw [if_pos e2, if_pos (by omega)]; omega
      · rw [if_neg e2, if_neg (by omega)]
theorem sum_addN (f g : Nat → Nat) (l : List Nat) : (l.map fun i => f i + g i).sum = (l.map f).sum + (l.map g).sum := by
  induction l with
  | nil => simp
  | cons x l ih => simp only [List.map_cons, List.sum_cons, ih]; omega
theorem S2_add (nodes : Int) (f g : Int → Int → Nat) : S2 nodes (fun a b => f a b + g a b) = S2 nodes f + S2 nodes g := by
  unfold S2
  rw [← sum_addN]
  congr 1
  apply List.map_congr_left
  intro i _
  rw [sum_addN]
theorem S2_one (nodes : Int) (t : TTributary) (h0 : 0 ≤ loT t) (h1 : loT t < hiT t) (h2 : hiT t < nodes) : S2 nodes (fun a b => if isAB a b t then 1 else 0) = 1 := by
  unfold S2
  have hin : ∀ i : Nat, i ≠ (loT t).toNat → ((List.range (nodes - (0 + (i : Int) + 1)).toNat).map fun k : Nat => if isAB (0 + (i : Int)) (0 + (i : Int) + 1 + (k : Int)) t then 1 else 0).sum = 0 := by
    intro i hi
    have : ∀ n, ((List.range n).map fun k : Nat => if isAB (0 + (i : Int)) (0 + (i : Int) + 1 + (k : Int)) t then 1 else 0).sum = 0 := by
      intro n
      induction n with
      | zero => simp
      | succ n ih =>
        rw [List.range_succ, List.map_append, List.sum_append, ih]
        have : isAB (0 + (i : Int)) (0 + (i : Int) + 1 + (n : Int)) t = false := by
          unfold isAB
          have : (loT t == 0 + (i : Int)) = false := by rw [beq_eq_false_iff_ne]; omega
          rw [this]; rfl
        simp only [List.map_cons, List.map_nil, List.sum_cons, List.sum_nil, this]; rfl
    exact this _
  rw [sum_ind _ (loT t).toNat nodes.toNat hin, if_pos (by omega)]
  have := sum_ind (fun k : Nat => if isAB (0 + ((loT t).toNat : Int)) (0 + ((loT t).toNat : Int) + 1 + (k : Int)) t then 1 else 0) (hiT t - loT t - 1).toNat (nodes - (0 + ((loT t).toNat : Int) + 1)).toNat (fun k hk => by
    have : isAB (0 + ((loT t).toNat : Int)) (0 + ((loT t).toNat : Int) + 1 + (k : Int)) t = false := by
      unfold isAB
      have : (hiT t == 0 + ((loT t).toNat : Int) + 1 + (k : Int)) = false := by rw [beq_eq_false_iff_ne]; omega
      rw [this]; simp
    simp only [this]; rfl)
  rw [this, if_pos (by omega)]
  have : isAB (0 + ((loT t).toNat : Int)) (0 + ((loT t).toNat : Int) + 1 + (((hiT t - loT t - 1).toNat : Nat) : Int)) t = true := by
    unfold isAB
    have e1 : (loT t == 0 + ((loT t).toNat : Int)) = true := by rw [beq_iff_eq]; omega
    have e2 : (hiT t == 0 + ((loT t).toNat : Int) + 1 + (((hiT t - loT t - 1).toNat : Nat) : Int)) = true := by rw [beq_iff_eq]; omega
    rw [e1, e2]; rfl
  rw [this]; rfl
theorem S2_zero (nodes : Int) : S2 nodes (fun _ _ => 0) = 0 := by
  unfold S2
  have : ∀ n, ((List.range n).map fun _ : Nat => 0).sum = 0 := by intro n; induction n with | zero => simp | succ n ih => rw [List.range_succ, List.map_append, List.sum_append, ih]; simp
  have h : (fun i : Nat => ((List.range (nodes - (0 + (i : Int) + 1)).toNat).map fun _ : Nat => 0).sum) = fun _ => 0 := by funext i; exact this _
  rw [h]; exact this _
theorem S2_all (nodes : Int) : ∀ (l : List TTributary), (∀ t ∈ l, 0 ≤ loT t ∧ loT t < hiT t ∧ hiT t < nodes) → S2 nodes (cntN l) = l.length
  | [], _ => by
    have : cntN [] = fun _ _ => 0 := by funext a b; rfl
    rw [this, S2_zero]; rfl
  | t :: l, h => by
    have e : cntN (t :: l) = fun a b => (if isAB a b t then 1 else 0) + cntN l a b := by
      funext a b
      unfold cntN ratesAB
      rw [List.filter_cons]
      split
      · rename_i h; simp [h]; omega
      · rename_i h; simp [h]
    obtain ⟨h1, h2, h3⟩ := h t (by simp)
    rw [e, S2_add, S2_one nodes t h1 h2 h3, S2_all nodes l fun x hx => h x (by simp [hx])]
    simp; omega
theorem zr_GroomDirectE (l : List TTributary) (nodes cap : Int) : (gdRows l nodes cap).length ≤ totR l (gdRows l nodes cap) := by
  obtain ⟨h, _⟩ := gdRows_all l nodes cap
  unfold totR
  generalize gdRows l nodes cap = rows at h
  induction rows with
  | nil => simp
  | cons r rows ih =>
    have := ih fun x hx => h x (by simp [hx])
    obtain ⟨a, b, _, rfl, hp⟩ := h r (by simp)
    simp only [List.map_cons, List.sum_cons, List.length_cons]
    have e : cntRow l [a, b, unitsN (ratesAB l a b) cap] = cntN l a b := rfl
    omega
/-! the law -/
theorem walkL_sm (p : TTributary → Bool) : ∀ (xs : List TTributary) (i : Nat) (a : Int × Int), walkL (fun _ x (a : Int × Int) => (.inl (if p x then (a.1 + x.Rate, a.2 + 1) else a) : (Int × Int) ⊕ (Int × Int))) (fun a => a) i xs a = (a.1 + ((xs.filter p).map (·.Rate)).sum, a.2 + (((xs.filter p).map (·.Rate)).length : Nat))
  | [], i, a => by simp [walkL]
  | x :: xs, i, a => by
    simp only [walkL]
    rw [walkL_sm p xs (i + 1), List.filter_cons]
    split
    · rename_i h
      simp only [List.map_cons, List.sum_cons, List.length_cons]
      refine Prod.ext ?_ ?_
      · simp only; omega
      · simp only; push_cast; omega
    · rfl
theorem pair_isAB (t : TTributary) (a b : Int) (h : a < b) : (cond (t.From == a) (cond (t.To == b) true (cond (t.From == b) (t.To == a) false)) (cond (t.From == b) (t.To == a) false)) = isAB a b t := by
  unfold isAB loT hiT
  by_cases h1 : t.From = a
  · by_cases h2 : t.To = b
    · have : ¬ t.To < t.From := by omega
      have h4 : t.From < t.To := by omega
      simp [h1, h2, this, h4]; omega
    · have h3 : t.From ≠ b := by omega
      have e1 : (t.From == a) = true := by simpa using h1
      have e2 : (t.To == b) = false := by simpa using h2
      have e3 : (t.From == b) = false := by simpa using h3
      rw [e1, e2, e3]
      simp only [cond_true, cond_false]
      symm
      by_cases c : t.To < t.From
      · rw [if_pos c, if_neg (by omega)]
        have : (t.To == a) = false := by rw [beq_eq_false_iff_ne]; omega
        rw [this]; rfl
      · rw [if_neg c]
        by_cases c2 : t.From < t.To
        · rw [if_pos c2, e2]; simp
        · rw [if_neg c2, e3]; simp
  · have e1 : (t.From == a) = false := by simpa using h1
    rw [e1, cond_false]
    by_cases h2 : t.From = b
    · have e2 : (t.From == b) = true := by simpa using h2
      rw [e2, cond_true]
      by_cases c : t.To < t.From
      · rw [if_pos c, if_neg (by omega), e2]; simp
      · rw [if_neg c, e1]
        have : (t.To == a) = false := by rw [beq_eq_false_iff_ne]; omega
        rw [this]; rfl
    · have e2 : (t.From == b) = false := by simpa using h2
      rw [e2, cond_false]
      symm
      by_cases c : t.To < t.From
      · rw [if_pos c, if_neg (by omega), e2]; simp
      · rw [if_neg c, e1]; rfl
end Vs

namespace Vs
open Go
theorem p_vBig (code : List Int) : M_laws_vBig code = some (decide (65536 < (code.length : Int))) := rfl
theorem p_DL2 (l : List TTributary) (x : Int × Int) (rows : List (List Int) × Bool) (s : Int × Int) (i : Nat) (a b u : Int) (hab : a < b) (hi : rows.1[i]? = some [a, b, u]) (hs : s.2 = (i : Int)) (hl : l.length ≤ 30) (hr : ∀ t ∈ l, 1 ≤ t.Rate ∧ t.Rate ≤ 1000) :
    iter (M_laws_FnDirectL2 (l, x) rows s) N0 (0, 0, 0) = some ((ratesAB l a b).sum, ((ratesAB l a b).length : Int)) := by
  have hil := (List.getElem?_eq_some_iff.1 hi).1
  have := iter_list (f := M_laws_FnDirectL2 (l, x) rows s) l (fun k (p : Int × Int) => (p.1, p.2, (k : Int))) (fun _ t p => .inl (if isAB a b t then (p.1 + t.Rate, p.2 + 1) else p)) (fun p => p) (fun k p => 0 ≤ p.1 ∧ p.1 ≤ 1000 * k ∧ 0 ≤ p.2 ∧ p.2 ≤ k) (fun k p t ht hI => by
    have hlt := (List.getElem?_eq_some_iff.1 ht).1
    have h1 : decide ((k : Int) < l.length) = true := by simp [hlt]
    have hrt := hr t (List.mem_of_getElem? ht)
    refine .inl ⟨_, rfl, ?_, ?_⟩
    · split
      · simp only; omega
      · omega
    · simp only [M_laws_FnDirectL2, h1, cond_true, Int.toNat_natCast, ht, hs, hi]
      rw [grd_t (by omega), grd_t (by omega), w64_eq (n := (k : Int) + 1) (by omega) (by omega)]
      have g0 : geti [a, b, u] 0 = some a := rfl
      have g1 : geti [a, b, u] 1 = some b := rfl
      simp only [Option.bind_some, g0, g1]
      rw [w64_eq (n := p.1 + t.Rate) (by omega) (by omega), w64_eq (n := p.2 + 1) (by omega) (by omega)]
      have hc : (cond (t.From == a) (cond (t.To == b) (some true) (cond (t.From == b) (some (t.To == a)) (some false))) (cond (t.From == b) (some (t.To == a)) (some false)) : Option Bool) = some (isAB a b t) := by
        rw [← pair_isAB t a b hab]
        cases t.From == a <;> cases t.To == b <;> cases t.From == b <;> rfl
      rw [hc]
      simp only [Option.bind_some]
      cases isAB a b t <;> rfl) (fun p _ => by simp [M_laws_FnDirectL2]) (0, 0) ⟨by omega, by omega, by omega, by omega⟩ (by omega)
  rw [walkL_sm] at this
  simpa [ratesAB] using this
theorem ratesAB_sum {l : List TTributary} {a b : Int} (hr : ∀ t ∈ l, 1 ≤ t.Rate ∧ t.Rate ≤ 1000) : ∀ r ∈ ratesAB l a b, 1 ≤ r ∧ r ≤ 1000 := by
  intro r h
  unfold ratesAB at h
  obtain ⟨t, ht, rfl⟩ := List.mem_map.1 h
  exact hr t (List.mem_filter.1 ht).1
theorem ok_rates {l : List TTributary} {nodes cap : Int} (h : tribs l nodes = true) : ∀ t ∈ l, (1 ≤ t.Rate ∧ t.Rate ≤ 1000) ∧ 0 ≤ loT t ∧ loT t < hiT t ∧ hiT t < nodes := by
  obtain ⟨b1, b2, b3⟩ := tribs_b h
  unfold tribs at h
  simp only [Bool.and_eq_true, Bool.not_eq_true', List.any_eq_false] at h
  intro t ht
  have := h.2 t ht
  unfold trOk ends wi at this
  rw [w64_eq (by omega) (by omega)] at this
  simp only [Bool.not_eq_true', Bool.not_eq_false, Bool.and_eq_true, decide_eq_true_eq, bne_iff_ne, ne_eq] at this
  obtain ⟨⟨⟨⟨c1, c2⟩, c3, c4⟩, c5⟩, c6, c7⟩ := this
  refine ⟨⟨c6, c7⟩, ?_⟩
  unfold loT hiT
  by_cases e : t.To < t.From
  · rw [if_pos e, if_neg (by omega)]; omega
  · rw [if_neg e, if_pos (by omega)]; omega
theorem p_FnDirect (code : List Int) (o1 : code.length ≤ 9223372036854775807 ∧ ∀ x ∈ code, 0 ≤ x ∧ x ≤ 255) : M_laws_FnDirect code = some true := by
  unfold M_laws_FnDirect
  simp only [p_vBig, Option.bind_some]
  by_cases hbig : 65536 < (code.length : Int)
  · rw [decide_eq_true hbig]; rfl
  rw [decide_eq_false hbig, cond_false]
  obtain ⟨l, n, c, hd, hl⟩ := p_DrawGroomDirect code o1.2 (by omega)
  rw [hd]
  simp only [Option.bind_some, p_impl_GroomDirect l n c (by omega), p_spec_GroomDirect l n c (by omega), beq_self_eq_true, Bool.not_true, cond_false, bne_self_eq_false, cond_true]
  unfold gdP
  by_cases hok : (tribs l n && wi c 1 10000 && !l.any fun t => decide (c < t.Rate)) = true
  · rw [if_pos hok]
    simp only [Bool.and_eq_true, Bool.not_eq_true', List.any_eq_false] at hok
    obtain ⟨⟨h1, h2⟩, h3⟩ := hok
    obtain ⟨b1, b2, b3⟩ := tribs_b h1
    have hr := ok_rates (cap := c) h1
    have hcap : 1 ≤ c ∧ c ≤ 10000 := by unfold wi at h2; simpa using h2
    obtain ⟨r1, r2⟩ := gdRows_all l n c
    rw [S2_all n l fun t ht => (hr t ht).2] at r2
    simp only [Bool.not_true, cond_false, Option.bind_some]
    have hall : ∀ k, ((((gdRows l n c).take k).map (cntRow l)).sum : Nat) ≤ l.length := by
      intro k
      have : ((gdRows l n c).map (cntRow l)).sum = (((gdRows l n c).take k).map (cntRow l)).sum + (((gdRows l n c).drop k).map (cntRow l)).sum := by
        rw [← List.sum_append, ← List.map_append, List.take_append_drop]
      unfold totR at r2
      omega
    have hrl : (gdRows l n c).length ≤ 1048576 := by
      have := zr_GroomDirectE l n c
      omega
    have key := iter_list (f := M_laws_FnDirectL1 (l, n, c) (gdRows l n c, true)) (gdRows l n c) (fun i (a : Int) => (a, (i : Int))) (fun _ row a => .inl (a + (cntRow l row : Int))) (fun a => .inl a) (fun i a => a = ((((gdRows l n c).take i).map (cntRow l)).sum : Nat)) (fun i a row hrow hI => by
      have hlt := (List.getElem?_eq_some_iff.1 hrow).1
      have e1 : decide ((i : Int) < (gdRows l n c).length) = true := by simp [hlt]
      obtain ⟨ra, rb, rab, rfl, rpos⟩ := r1 row (List.mem_of_getElem? hrow)
      have hsum := ratesAB_sum (a := ra) (b := rb) fun t ht => (hr t ht).1
      have hcnt : cntRow l [ra, rb, unitsN (ratesAB l ra rb) c] = (ratesAB l ra rb).length := rfl
      have hlen := ratesAB_len l ra rb
      have hle := hall (i + 1)
      rw [List.take_add_one, hrow, List.map_append, List.sum_append] at hle
      simp only [Option.toList_some, List.map_cons, List.map_nil, List.sum_cons, List.sum_nil, Nat.add_zero, hcnt] at hle
      refine .inl ⟨_, rfl, ?_, ?_⟩
      · rw [List.take_add_one, hrow, List.map_append, List.sum_append, hI, hcnt]
        simp [hcnt]
      · have hcap2 : ∀ r ∈ ratesAB l ra rb, 0 ≤ r ∧ r ≤ c := by
          intro r hrr
          refine ⟨by have := hsum r hrr; omega, ?_⟩
          unfold ratesAB at hrr
          obtain ⟨t, ht, rfl⟩ := List.mem_map.1 hrr
          have := h3 t (List.mem_filter.1 ht).1
          simp only [Bool.not_eq_true, decide_eq_false_iff_not] at this
          simpa using this
        have hen := units_enough (by omega) hcap2
        obtain ⟨k, k1, k2, _, _⟩ := packR_units (cap := c) (show 0 < (ratesAB l ra rb).length from rpos)
        have hu : unitsN (ratesAB l ra rb) c = (k : Int) + 1 := by unfold unitsN; rw [k1]; rfl
        have hnn := sum_le fun r hrr => (hcap2 r hrr).1
        simp only [M_laws_FnDirectL1, e1, cond_true, Int.toNat_natCast, hrow]
        rw [grd_t (by omega)]
        simp only [Option.bind_some, List.length_cons, List.length_nil]
        have e3 : ((((0 + 1 + 1 + 1 : Nat) : Int)) != 3) = false := rfl
        rw [e3, cond_false, p_DL2 l (n, c) (gdRows l n c, true) (a, (i : Int)) i ra rb _ rab hrow rfl hl fun t ht => (hr t ht).1]
        simp only [Option.bind_some]
        have e4 : (((ratesAB l ra rb).length : Int) == 0) = false := by rw [beq_eq_false_iff_ne]; unfold cntN at rpos; omega
        have g2 : geti [ra, rb, unitsN (ratesAB l ra rb) c] 2 = some (unitsN (ratesAB l ra rb) c) := rfl
        rw [e4, cond_false, g2]
        simp only [Option.bind_some]
        have hm : unitsN (ratesAB l ra rb) c * c ≤ 31 * 10000 := by
          rw [hu]
          exact Int.mul_le_mul (by omega) hcap.2 (by omega) (by omega)
        rw [w64_eq (n := unitsN (ratesAB l ra rb) c * c) (by omega) (by omega)]
        rw [decide_eq_false (show ¬ unitsN (ratesAB l ra rb) c * c < (ratesAB l ra rb).sum by omega), cond_false, decide_eq_false (show ¬ ((ratesAB l ra rb).length : Int) < unitsN (ratesAB l ra rb) c by omega)]
        simp only [Option.bind_some, cond_false]
        rw [w64_eq (by omega) (by omega), w64_eq (by omega) (by omega), hcnt]
        rfl) (fun a hI => by simp [M_laws_FnDirectL1]) 0 (by simp) (by omega)
    have e0 : ((0 : Nat) : Int) = 0 := rfl
    simp only [e0] at key
    rw [key]
    have hw : ∀ (rows : List (List Int)) (i : Nat) (a : Int), walkL (fun _ row (a : Int) => (.inl (a + (cntRow l row : Int)) : Int ⊕ (Int ⊕ Bool))) (fun a => .inl a) i rows a = .inl (a + ((rows.map (cntRow l)).sum : Nat)) := by
      intro rows
      induction rows with
      | nil => intro i a; simp [walkL]
      | cons row rows ih =>
        intro i a
        simp only [walkL]
        rw [ih (i + 1)]
        simp only [List.map_cons, List.sum_cons]
        congr 1; push_cast; omega
    rw [hw]
    simp only [Option.bind_some]
    unfold totR at r2
    rw [r2]
    simp
  · rw [if_neg hok]
    rfl
end Vs

