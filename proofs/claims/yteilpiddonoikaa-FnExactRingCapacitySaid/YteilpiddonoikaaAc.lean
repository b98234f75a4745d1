/-
  Part of the proof that the law FnExactRingCapacity returns true at every input; no condition beside the row's own.
-/
import Derived.Test.YteilpiddonoikaaFe
import Derived.Test.YteilpiddonoikaaAa
set_option linter.defProp false
set_option linter.unusedSimpArgs false
set_option linter.unusedVariables false
namespace Vs
open Go
def z_StringS (xs : (List ByteArray)) : Nat := xs.length + (xs.map fun x => x.size).sum
def ok_StringS (xs : (List ByteArray)) : Prop := xs.length ≤ 9223372036854775807 ∧ ∀ x ∈ xs, x.size ≤ 9223372036854775807
theorem p_szStringS (xs : (List ByteArray)) (l : Int) (h1 : 0 ≤ l) (h2 : l ≤ 1048576) (hs : ok_StringS xs) : M_laws_szStringS xs l = some (if l - z_StringS xs < 0 then (-1 : Int) else l - z_StringS xs) := by
  unfold M_laws_szStringS
  have hs1 := hs.1
  rw [w64_eq (by omega) (by omega)]
  simp only [cond_ite, decide_eq_true_eq]
  by_cases h : l - (xs.length : Int) < 0
  · rw [if_pos h, if_pos (by unfold z_StringS; omega)]
  · rw [if_neg h, sz_loop (f := M_laws_szStringSL1 xs) xs (fun x => x.size) (fun i x l' hx h3 h4 => by
      have hlt := (List.getElem?_eq_some_iff.1 hx).1
      have h1 : decide ((i : Int) < xs.length) = true := by simp [hlt]
      have hx2 := hs.2 x (List.mem_of_getElem? hx)
      simp only [M_laws_szStringSL1, h1, cond_true, geti_nat, hx, Option.bind_some, cond_ite, decide_eq_true_eq]
      rw [w64_eq (by omega) (by omega), w64_eq (by omega) (by omega)]
      by_cases h5 : l' - (x.size : Int) < 0
      · simp only [if_pos h5, if_true]
      · simp only [if_neg h5, if_true]; rfl) (fun l => by simp [M_laws_szStringSL1]) _ (by omega) (by omega) (by omega)]
    have e : l - (xs.length : Int) - ((xs.map fun x => x.size).sum : Nat) = l - (z_StringS xs : Int) := by unfold z_StringS; omega
    rw [e]
    by_cases h5 : l - (z_StringS xs : Int) < 0
    · simp only [if_pos h5, Option.bind_some]
    · simp only [if_neg h5, Option.bind_some]
theorem p_toStringS (xs : (List ByteArray)) (hl : z_StringS xs ≤ 1048576) : M_laws_toStringS xs = some xs := by
  unfold M_laws_toStringS
  have hlen : xs.length ≤ 1048576 := by unfold z_StringS at hl; omega
  have key := fun l0 (h0 : l0.length = xs.length) => iter_copy (f := M_laws_toStringSL1 xs) xs id l0 h0 (fun i l x y hx hy hll => by
    have hlt := (List.getElem?_eq_some_iff.1 hx).1
    have h1 : decide ((i : Int) < xs.length) = true := by simp [hlt]
    have h2 : (0 ≤ (i : Int) ∧ (i : Int) < (l.length : Int)) := by omega
    simp only [M_laws_toStringSL1, h1, cond_true, geti_nat, hx, Option.bind_some, grd_t h2, Int.toNat_natCast, hy, bnd, id]
    rw [w64_eq (by omega) (by omega)]; rfl) (fun l => by simp [M_laws_toStringSL1]) (by omega)
  rw [grd_t (by omega)]
  simp only [Option.bind_some, bnd]
  rw [key _ (by simp)]; simp
theorem p_eqStringS (xs : (List ByteArray)) (hl : z_StringS xs ≤ 1048576) : M_laws_eqStringS xs xs = some true := by
  unfold M_laws_eqStringS
  have hlen : xs.length ≤ 1048576 := by unfold z_StringS at hl; omega
  rw [eq_loop (f := M_laws_eqStringSL1 xs xs) xs (fun i x hx => by
    have hlt := (List.getElem?_eq_some_iff.1 hx).1
    have h1 : decide ((i : Int) < xs.length) = true := by simp [hlt]
    simp only [M_laws_eqStringSL1, h1, cond_true, geti_nat, hx, Option.bind_some, beq_self_eq_true, Bool.not_true, cond_false]
    rw [w64_eq (by omega) (by omega)]; rfl) (by simp [M_laws_eqStringSL1]) (by omega)]
  simp
theorem p_toFiber (x : TFiber) : M_laws_toFiber x = some x := by unfold M_laws_toFiber; rfl
theorem p_eqFiber (x : TFiber) : M_laws_eqFiber x x = some true := by unfold M_laws_eqFiber; simp
def z_FiberS (xs : (List TFiber)) : Nat := xs.length
def ok_FiberS (xs : (List TFiber)) : Prop := xs.length ≤ 9223372036854775807
theorem p_szFiberS (xs : (List TFiber)) (l : Int) (h1 : 0 ≤ l) (h2 : l ≤ 1048576) (hs : ok_FiberS xs) : M_laws_szFiberS xs l = some (if l - z_FiberS xs < 0 then (-1 : Int) else l - z_FiberS xs) := by
  unfold M_laws_szFiberS
  unfold ok_FiberS at hs
  rw [w64_eq (by omega) (by omega)]
  simp only [cond_ite, decide_eq_true_eq]
  by_cases h : l - (xs.length : Int) < 0
  · rw [if_pos h, if_pos (show l - (z_FiberS xs : Int) < 0 from h)]
  · rw [if_neg h, if_neg (show ¬ l - (z_FiberS xs : Int) < 0 from h)]; rfl
theorem p_toFiberS (xs : (List TFiber)) (hl : z_FiberS xs ≤ 1048576) : M_laws_toFiberS xs = some xs := by
  unfold M_laws_toFiberS
  have hlen : xs.length ≤ 1048576 := by unfold z_FiberS at hl; omega
  have key := fun l0 (h0 : l0.length = xs.length) => iter_copy (f := M_laws_toFiberSL1 xs) xs id l0 h0 (fun i l x y hx hy hll => by
    have hlt := (List.getElem?_eq_some_iff.1 hx).1
    have h1 : decide ((i : Int) < xs.length) = true := by simp [hlt]
    have h2 : (0 ≤ (i : Int) ∧ (i : Int) < (l.length : Int)) := by omega
    have hto : M_laws_toFiber x = some x := p_toFiber x
    simp only [M_laws_toFiberSL1, h1, cond_true, geti_nat, hx, Option.bind_some, grd_t h2, Int.toNat_natCast, hy, hto, bnd, id]
    rw [w64_eq (by omega) (by omega)]; rfl) (fun l => by simp [M_laws_toFiberSL1]) (by omega)
  rw [grd_t (by omega)]
  simp only [Option.bind_some, bnd]
  rw [key _ (by simp)]; simp
theorem p_eqFiberS (xs : (List TFiber)) (hl : z_FiberS xs ≤ 1048576) : M_laws_eqFiberS xs xs = some true := by
  unfold M_laws_eqFiberS
  have hlen : xs.length ≤ 1048576 := by unfold z_FiberS at hl; omega
  rw [eq_loop (f := M_laws_eqFiberSL1 xs xs) xs (fun i x hx => by
    have hlt := (List.getElem?_eq_some_iff.1 hx).1
    have h1 : decide ((i : Int) < xs.length) = true := by simp [hlt]
    have he : M_laws_eqFiber x x = some true := p_eqFiber x
    simp only [M_laws_eqFiberSL1, h1, cond_true, geti_nat, hx, Option.bind_some, he, Bool.not_true, cond_false]
    rw [w64_eq (by omega) (by omega)]; rfl) (by simp [M_laws_eqFiberSL1]) (by omega)]
  simp
def z_Network (x : TNetwork) : Nat := z_StringS x.Nodes + z_FiberS x.Fibers
def ok_Network (x : TNetwork) : Prop := ok_StringS x.Nodes ∧ ok_FiberS x.Fibers
theorem p_szNetwork (x : TNetwork) (l : Int) (h1 : 0 ≤ l) (h2 : l ≤ 1048576) (hs : ok_Network x) : M_laws_szNetwork x l = some (if l - z_Network x < 0 then (-1 : Int) else l - z_Network x) := by
  unfold M_laws_szNetwork
  obtain ⟨hs0, hs1⟩ := hs
  rw [p_szStringS _ _ (by omega) (by omega) hs0]
  simp only [Option.bind_some]
  by_cases h10 : l - (z_StringS x.Nodes : Int) < 0
  · rw [if_pos h10, if_pos (show l - (z_Network x : Int) < 0 by unfold z_Network; omega)]; simp
  · simp only [if_neg h10]
    simp only [h10, decide_false, cond_false]
    rw [p_szFiberS _ _ (by omega) (by omega) hs1]
    simp only [Option.bind_some]
    by_cases h11 : l - (z_StringS x.Nodes : Int) - (z_FiberS x.Fibers : Int) < 0
    · rw [if_pos h11, if_pos (show l - (z_Network x : Int) < 0 by unfold z_Network; omega)]; simp
    · simp only [if_neg h11]
      simp only [h11, decide_false, cond_false]
      have e : l - (z_StringS x.Nodes : Int) - (z_FiberS x.Fibers : Int) = l - (z_Network x : Int) := by unfold z_Network; omega
      rw [e, if_neg (by omega)]
theorem p_toNetwork (x : TNetwork) (hl : z_Network x ≤ 1048576) : M_laws_toNetwork x = some x := by
  unfold M_laws_toNetwork
  simp only [p_toStringS x.Nodes (by unfold z_Network at hl; omega), p_toFiberS x.Fibers (by unfold z_Network at hl; omega), Option.bind_some]
theorem p_eqNetwork (x : TNetwork) (hl : z_Network x ≤ 1048576) : M_laws_eqNetwork x x = some true := by
  unfold M_laws_eqNetwork
  simp [p_eqStringS x.Nodes (by unfold z_Network at hl; omega), p_eqFiberS x.Fibers (by unfold z_Network at hl; omega)]
def z_IntS (xs : (List Int)) : Nat := xs.length
def ok_IntS (xs : (List Int)) : Prop := xs.length ≤ 9223372036854775807
theorem p_toIntS (xs : (List Int)) (hl : z_IntS xs ≤ 1048576) : M_laws_toIntS xs = some xs := by
  unfold M_laws_toIntS
  have hlen : xs.length ≤ 1048576 := by unfold z_IntS at hl; omega
  have key := fun l0 (h0 : l0.length = xs.length) => iter_copy (f := M_laws_toIntSL1 xs) xs id l0 h0 (fun i l x y hx hy hll => by
    have hlt := (List.getElem?_eq_some_iff.1 hx).1
    have h1 : decide ((i : Int) < xs.length) = true := by simp [hlt]
    have h2 : (0 ≤ (i : Int) ∧ (i : Int) < (l.length : Int)) := by omega
    simp only [M_laws_toIntSL1, h1, cond_true, geti_nat, hx, Option.bind_some, grd_t h2, Int.toNat_natCast, hy, bnd, id]
    rw [w64_eq (by omega) (by omega)]; rfl) (fun l => by simp [M_laws_toIntSL1]) (by omega)
  rw [grd_t (by omega)]
  simp only [Option.bind_some, bnd]
  rw [key _ (by simp)]; simp
theorem p_eqIntS (xs : (List Int)) (hl : z_IntS xs ≤ 1048576) : M_laws_eqIntS xs xs = some true := by
  unfold M_laws_eqIntS
  have hlen : xs.length ≤ 1048576 := by unfold z_IntS at hl; omega
  rw [eq_loop (f := M_laws_eqIntSL1 xs xs) xs (fun i x hx => by
    have hlt := (List.getElem?_eq_some_iff.1 hx).1
    have h1 : decide ((i : Int) < xs.length) = true := by simp [hlt]
    simp only [M_laws_eqIntSL1, h1, cond_true, geti_nat, hx, Option.bind_some, bne_self_eq_false, cond_false]
    rw [w64_eq (by omega) (by omega)]; rfl) (by simp [M_laws_eqIntSL1]) (by omega)]
  simp
end Vs

namespace Vs
open Go
theorem len_lt (b : Nat) (h : b ≤ 1048576) : b < 18446744073709551615 := by omega
def wi (x a b : Int) : Bool := decide (a ≤ x) && decide (x ≤ b)
theorem wi_iff {x a b : Int} : wi x a b = true ↔ a ≤ x ∧ x ≤ b := by simp [wi]
theorem wi_false {x a b : Int} : wi x a b = false ↔ ¬ (a ≤ x ∧ x ≤ b) := by rw [← wi_iff]; simp
theorem p_within (x a b : Int) : M_impl_within x a b = some (wi x a b) := by
  unfold M_impl_within wi; by_cases h : a ≤ x <;> simp [h]
theorem p_l1In (x a b : Int) : M_spec_l1In x a b = some (wi x a b) := by
  unfold M_spec_l1In wi; by_cases h : a ≤ x <;> simp [h]

/-! ### names -/
def letB (c : UInt8) : Bool := decide (97 ≤ c.toNat) && decide (c.toNat ≤ 122)
def digB (c : UInt8) : Bool := decide (48 ≤ c.toNat) && decide (c.toNat ≤ 57)
def nameBad (i : Nat) (c : UInt8) : Bool := !letB c && (!digB c || i == 0)
def nameB (s : ByteArray) : Bool := !anyI nameBad s.data.toList && wi s.size 1 8
theorem getz_nat (s : ByteArray) (i : Nat) : getz s (i : Int) = s.data.toList[i]? := by
  unfold getz
  rw [if_pos (by omega), Int.toNat_natCast]
  by_cases h : i < s.size
  · have h2 : i < s.data.toList.length := by simpa using h
    rw [getElem?_pos s i h, List.getElem?_eq_getElem h2]
    rfl
  · have h2 : ¬ i < s.data.toList.length := by simpa using h
    rw [getElem?_neg s i h, List.getElem?_eq_none (Nat.le_of_not_lt h2)]
theorem size_list (s : ByteArray) : s.size = s.data.toList.length := by show s.data.size = s.data.toList.length; rw [Array.length_toList]
theorem letB_c (c : UInt8) : letB c = (decide (97 ≤ (c.toNat : Int)) && decide ((c.toNat : Int) ≤ 122)) := by
  unfold letB
  congr 1 <;> exact decide_eq_decide.2 (by omega)
theorem digB_c (c : UInt8) : digB c = (decide (48 ≤ (c.toNat : Int)) && decide ((c.toNat : Int) ≤ 57)) := by
  unfold digB
  congr 1 <;> exact decide_eq_decide.2 (by omega)
theorem p_isName (s : ByteArray) (hl : s.size ≤ 1048576) : M_impl_isName s = some (nameB s) := by
  unfold M_impl_isName nameB
  rw [size_list] at *
  rw [iter_anyI (f := M_impl_isNameL1 s) s.data.toList nameBad (.inr false) (.inl ()) (fun i c hc _ => by
    have hlt := (List.getElem?_eq_some_iff.1 hc).1
    have h1 : decide ((i : Int) < s.size) = true := decide_eq_true (by rw [size_list]; omega)
    simp only [M_impl_isNameL1, h1, cond_true, getz_nat, hc, Option.bind_some, nameBad, letB_c, digB_c]
    rw [w64_eq (by omega) (by omega)]
    have hi : ((i : Int) == 0) = (i == 0) := by rw [Bool.eq_iff_iff]; simp
    rw [hi]
    cases decide (97 ≤ (c.toNat : Int)) <;> cases decide ((c.toNat : Int) ≤ 122) <;> cases decide (48 ≤ (c.toNat : Int)) <;> cases decide ((c.toNat : Int) ≤ 57) <;> cases (i == 0) <;> rfl) (by simp [M_impl_isNameL1]) (by omega)]
  rw [← size_list]
  cases anyI nameBad s.data.toList <;> simp [p_within]
theorem p_l2Sign (c : UInt8) : M_spec_l2Sign (c.toNat : Int) = some (letB c || digB c) := by
  unfold M_spec_l2Sign
  simp only [letB_c, digB_c]
  cases decide (97 ≤ (c.toNat : Int)) <;> cases decide ((c.toNat : Int) ≤ 122) <;> cases decide (48 ≤ (c.toNat : Int)) <;> rfl
theorem fstc (c : UInt8) : (cond (decide ((c.toNat : Int) < 97)) (some true) (some (decide (122 < (c.toNat : Int)))) : Option Bool) = some (!letB c) := by
  rw [letB_c]
  by_cases h1 : (c.toNat : Int) < 97
  · have h2 : ¬ 97 ≤ (c.toNat : Int) := by omega
    simp [h1, h2]
  · have h2 : 97 ≤ (c.toNat : Int) := by omega
    simp only [h1, decide_false, cond_false, h2, decide_true, Bool.true_and]
    by_cases h3 : 122 < (c.toNat : Int)
    · have h4 : ¬ (c.toNat : Int) ≤ 122 := by omega
      simp [h3, h4]
    · have h4 : (c.toNat : Int) ≤ 122 := by omega
      simp [h3, h4]
theorem p_l2Name (s : ByteArray) (hl : s.size ≤ 1048576) : M_spec_l2Name s = some (nameB s) := by
  unfold M_spec_l2Name nameB
  simp only [p_l1In, Option.bind_some]
  rcases bt (wi s.size 1 8) with hw | hw
  · simp only [hw, Bool.not_true, cond_false, Bool.and_true]
    have hs : 0 < s.data.toList.length := by rw [← size_list]; have := (wi_iff.1 hw).1; omega
    have h0 : s.data.toList[0]? = some s.data.toList[0] := List.getElem?_eq_getElem hs
    have g0 : getz s 0 = some s.data.toList[0] := by rw [← h0]; exact getz_nat s 0
    simp only [g0, Option.bind_some]
    have key := iter_anyI (f := M_spec_l2NameL1 s) s.data.toList (fun _ c => !(letB c || digB c)) (.inr false) (.inl ()) (fun i c hc _ => by
      have hlt := (List.getElem?_eq_some_iff.1 hc).1
      have h1 : decide ((i : Int) < s.size) = true := decide_eq_true (by rw [size_list]; omega)
      rw [size_list] at hl
      simp only [M_spec_l2NameL1, h1, cond_true, getz_nat, hc, Option.bind_some, p_l2Sign]
      rw [w64_eq (by omega) (by omega)]
      cases letB c <;> cases digB c <;> rfl) (by simp [M_spec_l2NameL1]) (by rw [size_list] at hl; omega)
    rw [fstc]
    simp only [Option.bind_some, key]
    rcases bt (letB s.data.toList[0]) with hL | hL
    · simp only [hL, Bool.not_true, cond_false]
      have e : anyI (fun _ c => !(letB c || digB c)) s.data.toList = anyI nameBad s.data.toList := by
        refine anyI_congr fun i c hc _ => ?_
        unfold nameBad
        by_cases hi : i = 0
        · subst hi; rw [h0] at hc; cases hc; rw [hL]; rfl
        · have : (i == 0) = false := by simpa using hi
          rw [this]
          cases letB c <;> cases digB c <;> rfl
      rw [e]
      cases anyI nameBad s.data.toList <;> rfl
    · have : anyI nameBad s.data.toList = true := anyI_iff.2 ⟨0, _, h0, by unfold nameBad; rw [hL]; simp⟩
      simp only [hL, this, Bool.not_false, cond_true, Bool.not_true]
  · simp [hw]

/-! ### which index -/
def idxZ (v : ByteArray) (xs : List ByteArray) : Option (Nat × ByteArray) := findI (fun _ x => x.toList == v.toList) xs
def fidx (v : ByteArray) (xs : List ByteArray) : Int := match idxZ v xs with | some q => (q.1 : Int) | none => -1
theorem p_l2Find (xs : List ByteArray) (v : ByteArray) (hl : xs.length ≤ 1048576) : M_spec_l2Find xs v = some (fidx v xs) := by
  unfold M_spec_l2Find fidx
  rw [iter_findI (f := M_spec_l2FindL1 xs v) xs (fun _ x => x.toList == v.toList) (fun i _ => (i : Int)) () (fun i x hx _ => by
    have hlt := (List.getElem?_eq_some_iff.1 hx).1
    have h1 : decide ((i : Int) < xs.length) = true := by simp [hlt]
    simp only [M_spec_l2FindL1, h1, cond_true, geti_nat, hx, Option.bind_some]
    rw [w64_eq (by omega) (by omega)]
    cases x.toList == v.toList <;> rfl) (by simp [M_spec_l2FindL1]) (by omega)]
  unfold idxZ
  cases findI (fun _ x => x.toList == v.toList) xs <;> rfl
theorem p_Contains_z (xs : List ByteArray) (v : ByteArray) (hl : xs.length ≤ 1048576) : M_slices_Contains_Lstring_string xs v = some (xs.any fun x => x.toList == v.toList) := by
  unfold M_slices_Contains_Lstring_string M_slices_Index_Lstring_string
  rw [iter_findI (f := M_slices_Index_Lstring_stringL1 xs v) xs (fun _ x => x.toList == v.toList) (fun i _ => (i : Int)) () (fun i x hx _ => by
    have hlt := (List.getElem?_eq_some_iff.1 hx).1
    have h1 : decide ((i : Int) < xs.length) = true := by simp [hlt]
    simp only [M_slices_Index_Lstring_stringL1, h1, cond_true, geti_nat, hx, Option.bind_some]
    rw [w64_eq (by omega) (by omega), show (v.toList == x.toList) = (x.toList == v.toList) from Bool.beq_comm ..]
    cases x.toList == v.toList <;> rfl) (by simp [M_slices_Index_Lstring_stringL1]) (by omega)]
  cases e : findI (fun _ x => x.toList == v.toList) xs with
  | none =>
    have := findI_none.1 e
    have h : (xs.any fun x => x.toList == v.toList) = false := by
      rw [← anyI_any (fun x : ByteArray => x.toList == v.toList), anyI_false]; exact this
    rw [h]; rfl
  | some q =>
    obtain ⟨i, x⟩ := q
    obtain ⟨h1, h2, _⟩ := findI_some.1 e
    have h : (xs.any fun x => x.toList == v.toList) = true := List.any_eq_true.2 ⟨x, List.mem_of_getElem? h1, h2⟩
    rw [h]; simp

/-! ### fibers in order -/
def cmpI (x y : Int) : Int := if x < y then -1 else if y < x then 1 else 0
theorem p_cmp (x y : Int) : M_cmp_Compare_int x y = some (cmpI x y) := by
  unfold M_cmp_Compare_int M_cmp_isNaN_int cmpI
  by_cases h : x < y
  · simp [h]
  · by_cases h2 : y < x <;> simp [h, h2]
def cmpF (f g : TFiber) : Int := if f.A ≠ g.A then cmpI f.A g.A else if f.B ≠ g.B then cmpI f.B g.B else if f.Length ≠ g.Length then cmpI f.Length g.Length else cmpI f.Risk g.Risk
theorem cmpI_zero {x y : Int} : cmpI x y = 0 ↔ x = y := by
  unfold cmpI
  split
  · simp; omega
  · split
    · simp; omega
    · simp; omega
theorem p_compareFibers (f g : TFiber) : M_impl_compareFibers f g = some (cmpF f g) := by
  unfold M_impl_compareFibers
  simp only [p_cmp, Option.bind_some, bnd]
  unfold M_cmp_Or_int
  have key := iter_findI (f := M_cmp_Or_intL1 [cmpI f.A g.A, cmpI f.B g.B, cmpI f.Length g.Length, cmpI f.Risk g.Risk]) [cmpI f.A g.A, cmpI f.B g.B, cmpI f.Length g.Length, cmpI f.Risk g.Risk] (fun _ x => x != 0) (fun _ x => x) () (fun i x hx _ => by
    have hlt := (List.getElem?_eq_some_iff.1 hx).1
    have h1 : decide ((i : Int) < ([cmpI f.A g.A, cmpI f.B g.B, cmpI f.Length g.Length, cmpI f.Risk g.Risk].length : Nat)) = true := decide_eq_true (by omega)
    simp only [List.length_cons, List.length_nil] at hlt
    simp only [M_cmp_Or_intL1, h1, cond_true, geti_nat, hx, Option.bind_some]
    rw [w64_eq (by omega) (by omega)]
    cases x != 0 <;> rfl) (by simp [M_cmp_Or_intL1]) (by simp)
  rw [key]
  unfold cmpF findI
  simp only [List.zipIdx_cons, List.zipIdx_nil, List.find?_cons, List.find?_nil]
  by_cases h1 : f.A = g.A
  · rw [cmpI_zero.2 h1]
    by_cases h2 : f.B = g.B
    · rw [cmpI_zero.2 h2]
      by_cases h3 : f.Length = g.Length
      · rw [cmpI_zero.2 h3]
        by_cases h4 : f.Risk = g.Risk
        · simp [h1, h2, h3, h4, cmpI_zero.2]
        · have : (cmpI f.Risk g.Risk != 0) = true := bne_iff_ne.2 fun e => h4 (cmpI_zero.1 e)
          simp [h1, h2, h3, this]
      · have : (cmpI f.Length g.Length != 0) = true := bne_iff_ne.2 fun e => h3 (cmpI_zero.1 e)
        simp [h1, h2, h3, this]
    · have : (cmpI f.B g.B != 0) = true := bne_iff_ne.2 fun e => h2 (cmpI_zero.1 e)
      simp [h1, h2, this]
  · have : (cmpI f.A g.A != 0) = true := bne_iff_ne.2 fun e => h1 (cmpI_zero.1 e)
    simp [h1, this]
end Vs

namespace Vs
open Go
theorem slT_nat {α : Type} (xs : List α) (i : Nat) (h : i ≤ xs.length) : slT xs (i : Int) = some (xs.take i) := by
  unfold slT
  rw [if_pos ⟨by omega, by simpa using h⟩]; simp
theorem z_net {n : TNetwork} (h : z_Network n ≤ 1048576) : n.Nodes.length ≤ 1048576 ∧ n.Fibers.length ≤ 1048576 ∧ ∀ x ∈ n.Nodes, x.size ≤ 1048576 := by
  unfold z_Network z_StringS z_FiberS at h
  refine ⟨by omega, by omega, fun x hx => ?_⟩
  obtain ⟨i, hi, rfl⟩ := List.getElem_of_mem hx
  have : n.Nodes[i].size ≤ (n.Nodes.map fun x : ByteArray => x.size).sum := sum_ge (fun x : ByteArray => x.size) (xs := n.Nodes) (i := i) (x := n.Nodes[i]) (by simp [hi])
  omega
def nodeBad (n : TNetwork) (i : Nat) (x : ByteArray) : Bool := !nameB x || (n.Nodes.take i).any fun y => y.toList == x.toList
def fib1 (m : Nat) (f : TFiber) : Bool := decide (f.A < 0) || decide (f.B ≤ f.A) || decide ((m : Int) ≤ f.B) || !wi f.Length 1 5000 || !wi f.Risk 0 9
def fibBad (n : TNetwork) (i : Nat) (f : TFiber) : Bool := fib1 n.Nodes.length f || (decide (0 < i) && match n.Fibers[i - 1]? with | some g => decide (0 < cmpF g f) | none => false)
def netOk (n : TNetwork) : Bool := !anyI (nodeBad n) n.Nodes && !anyI (fibBad n) n.Fibers && wi n.Nodes.length 2 8 && decide (n.Fibers.length ≤ 14)

theorem p_IsValidNetwork (n : TNetwork) (hz : z_Network n ≤ 1048576) : M_impl_IsValidNetwork n = some (netOk n) := by
  obtain ⟨h1, h2, h3⟩ := z_net hz
  unfold M_impl_IsValidNetwork netOk
  rw [iter_anyI (f := M_impl_IsValidNetworkL1 n) n.Nodes (nodeBad n) (.inr false) (.inl ()) (fun i x hx _ => by
    have hlt := (List.getElem?_eq_some_iff.1 hx).1
    have e1 : decide ((i : Int) < n.Nodes.length) = true := by simp [hlt]
    simp only [M_impl_IsValidNetworkL1, e1, cond_true, geti_nat, hx, Option.bind_some, p_isName x (h3 x (List.mem_of_getElem? hx)), slT_nat n.Nodes i (Nat.le_of_lt hlt), p_Contains_z (n.Nodes.take i) x (by simp; omega), nodeBad]
    rw [w64_eq (by omega) (by omega)]
    rcases bt (nameB x) with e | e <;> rcases bt ((n.Nodes.take i).any (fun y => y.toList == x.toList)) with e' | e' <;> simp only [e, e'] <;> rfl) (by simp [M_impl_IsValidNetworkL1]) (by omega)]
  rcases bt (anyI (nodeBad n) n.Nodes) with hN | hN
  · simp [hN]
  · simp only [hN, Bool.false_eq_true, if_false, Option.bind_some, Bool.not_false, Bool.true_and]
    rw [iter_anyI (f := M_impl_IsValidNetworkL2 n) n.Fibers (fibBad n) (.inr false) (.inl ()) (fun i x hx _ => by
      have hlt := (List.getElem?_eq_some_iff.1 hx).1
      have e1 : decide ((i : Int) < n.Fibers.length) = true := by simp [hlt]
      simp only [M_impl_IsValidNetworkL2, e1, cond_true, geti_nat, hx, Option.bind_some, p_within]
      rw [w64_eq (n := (i : Int) + 1) (by omega) (by omega)]
      unfold fibBad fib1
      cases decide (x.A < 0)
      · cases decide (x.B ≤ x.A)
        · cases decide ((n.Nodes.length : Int) ≤ x.B)
          · cases wi x.Length 1 5000
            · rfl
            · cases wi x.Risk 0 9
              · rfl
              · by_cases hi : 0 < i
                · have hi' : decide ((0 : Int) < (i : Int)) = true := by simp [hi]
                  have hp : n.Fibers[i - 1]? = some n.Fibers[i - 1] := List.getElem?_eq_getElem (by omega)
                  have hw : IntKind.wrap .i64 ((i : Int) - 1) = ((i - 1 : Nat) : Int) := by rw [w64_eq (by omega) (by omega)]; omega
                  simp only [hi', cond_true, cond_false, Bool.not_true, hw, geti_nat, hp, Option.bind_some, p_compareFibers, hi, decide_true, Bool.true_and, Bool.false_or]
                  cases decide (0 < cmpF n.Fibers[i - 1] x) <;> rfl
                · have hi' : decide ((0 : Int) < (i : Int)) = false := by simp; omega
                  simp [hi', hi]
          · rfl
        · rfl
      · rfl) (by simp [M_impl_IsValidNetworkL2]) (by omega)]
    rcases bt (anyI (fibBad n) n.Fibers) with hF | hF
    · simp [hF]
    · simp only [hF, Bool.false_eq_true, if_false, Option.bind_some, Bool.not_false, Bool.true_and, p_within]
      have e : decide ((n.Fibers.length : Int) ≤ 14) = decide (n.Fibers.length ≤ 14) := decide_eq_decide.2 (by omega)
      rw [e]
      cases wi n.Nodes.length 2 8 <;> rfl

theorem find_dup (n : TNetwork) (i : Nat) (x : ByteArray) (hx : n.Nodes[i]? = some x) :
    (fidx x n.Nodes != (i : Int)) = (n.Nodes.take i).any fun y => y.toList == x.toList := by
  unfold fidx
  cases e : idxZ x n.Nodes with
  | none =>
    have := findI_none.1 e i x hx
    simp at this
  | some q =>
    obtain ⟨j, y⟩ := q
    obtain ⟨h1, h2, h3⟩ := findI_some.1 e
    simp only
    by_cases hj : j = i
    · subst hj
      have : ((n.Nodes.take j).any fun y => y.toList == x.toList) = false := by
        rw [List.any_eq_false]
        intro z hz
        obtain ⟨k, hk, rfl⟩ := List.getElem_of_mem hz
        simp only [List.length_take] at hk
        have := h3 k (n.Nodes.take j)[k] (by omega) (by rw [List.getElem_take]; exact List.getElem?_eq_getElem (by omega))
        rw [this]; simp
      rw [this]; simp
    · have hji : j < i := by
        rcases Nat.lt_trichotomy j i with h | h | h
        · exact h
        · exact (hj h).elim
        · have := h3 i x h hx
          simp at this
      have : ((n.Nodes.take i).any fun y => y.toList == x.toList) = true := List.any_eq_true.2 ⟨y, by
        have : (n.Nodes.take i)[j]? = some y := by rw [List.getElem?_take, if_pos hji]; exact h1
        exact List.mem_of_getElem? this, h2⟩
      rw [this]
      simp; omega

theorem p_l2Fiber (f : TFiber) (m : Nat) (hm : m ≤ 8) (hm2 : 2 ≤ m) : M_spec_l2Fiber f (m : Int) = some (!fib1 m f) := by
  unfold M_spec_l2Fiber fib1
  simp only [p_l1In, Option.bind_some]
  rw [w64_eq (n := (m : Int) - 1) (by omega) (by omega)]
  rcases bt (wi f.A 0 ((m : Int) - 1)) with h1 | h1
  · have h2 := wi_iff.1 h1
    rw [w64_eq (n := f.A + 1) (by omega) (by omega)]
    rcases bt (wi f.B (f.A + 1) ((m : Int) - 1)) with h3 | h3
    · have h4 := wi_iff.1 h3
      have a1 : decide (f.A < 0) = false := by simp; omega
      have a2 : decide (f.B ≤ f.A) = false := by simp; omega
      have a3 : decide ((m : Int) ≤ f.B) = false := by simp; omega
      simp only [h1, h3, a1, a2, a3, cond_true, Bool.false_or]
      cases wi f.Length 1 5000 <;> cases wi f.Risk 0 9 <;> rfl
    · have h4 := wi_false.1 h3
      simp only [h1, h3, cond_true, cond_false]
      by_cases a2 : f.B ≤ f.A
      · simp [a2]
      · have a3 : (m : Int) ≤ f.B := by omega
        simp [a3]
  · have h2 := wi_false.1 h1
    simp only [h1, cond_false]
    by_cases a1 : f.A < 0
    · simp [a1]
    · by_cases a2 : f.B ≤ f.A
      · simp [a2]
      · have a3 : (m : Int) ≤ f.B := by omega
        simp [a3]

structure FibOk (m : Int) (f : TFiber) : Prop where
  a0 : 0 ≤ f.A
  ab : f.A < f.B
  bm : f.B < m
  l1 : 1 ≤ f.Length
  l2 : f.Length ≤ 5000
  r0 : 0 ≤ f.Risk
  r9 : f.Risk ≤ 9
theorem fib1_ok {m : Nat} {f : TFiber} (h : fib1 m f = false) : FibOk m f := by
  unfold fib1 at h
  simp only [Bool.or_eq_false_iff, decide_eq_false_iff_not, Bool.not_eq_false', wi_iff] at h
  obtain ⟨⟨⟨⟨h1, h2⟩, h3⟩, h4, h5⟩, h6, h7⟩ := h
  exact ⟨by omega, by omega, by omega, h4, h5, h6, h7⟩

theorem p_before (f g : TFiber) (m : Nat) (hm : m ≤ 8) (hf : FibOk m f) (hg : FibOk m g) : ∃ r, M_spec_l2Before f g = some r ∧ decide (0 < r) = decide (0 < cmpF f g) := by
  obtain ⟨a1, a2, a3, a4, a5, a6, a7⟩ := hf
  obtain ⟨b1, b2, b3, b4, b5, b6, b7⟩ := hg
  have sgn : ∀ x y : Int, decide (0 < x - y) = decide (0 < cmpI x y) := by
    intro x y
    unfold cmpI
    by_cases h : x < y
    · rw [if_pos h]; exact decide_eq_decide.2 (by omega)
    · rw [if_neg h]
      by_cases h2 : y < x
      · rw [if_pos h2]; exact decide_eq_decide.2 (by omega)
      · rw [if_neg h2]; exact decide_eq_decide.2 (by omega)
  unfold M_spec_l2Before cmpF
  rw [w64_eq (n := f.A - g.A) (by omega) (by omega), w64_eq (n := f.B - g.B) (by omega) (by omega), w64_eq (n := f.Length - g.Length) (by omega) (by omega), w64_eq (n := f.Risk - g.Risk) (by omega) (by omega)]
  by_cases h1 : f.A = g.A
  · have e1 : (f.A != g.A) = false := by rw [h1]; simp
    by_cases h2 : f.B = g.B
    · have e2 : (f.B != g.B) = false := by rw [h2]; simp
      by_cases h3 : f.Length = g.Length
      · have e3 : (f.Length != g.Length) = false := by rw [h3]; simp
        exact ⟨f.Risk - g.Risk, by simp only [e1, e2, e3, cond_false], by simp only [h1, h2, h3, ne_eq, not_true, if_false]; exact sgn _ _⟩
      · have e3 : (f.Length != g.Length) = true := bne_iff_ne.2 h3
        exact ⟨f.Length - g.Length, by simp only [e1, e2, e3, cond_false, cond_true], by simp only [h1, h2, h3, ne_eq, not_true, not_false_eq_true, if_false, if_true]; exact sgn _ _⟩
    · have e2 : (f.B != g.B) = true := bne_iff_ne.2 h2
      exact ⟨f.B - g.B, by simp only [e1, e2, cond_false, cond_true], by simp only [h1, h2, ne_eq, not_true, not_false_eq_true, if_false, if_true]; exact sgn _ _⟩
  · have e1 : (f.A != g.A) = true := bne_iff_ne.2 h1
    exact ⟨f.A - g.A, by simp only [e1, cond_true], by simp only [h1, ne_eq, not_false_eq_true, if_true]; exact sgn _ _⟩

theorem p_l2Good (n : TNetwork) (hz : z_Network n ≤ 1048576) : M_spec_l2Good n = some (netOk n) := by
  obtain ⟨z1, z2, z3⟩ := z_net hz
  unfold M_spec_l2Good netOk
  simp only [p_l1In, Option.bind_some]
  rcases bt (wi n.Nodes.length 2 8) with hw | hw
  · have hw2 := wi_iff.1 hw
    have e : decide (14 < (n.Fibers.length : Int)) = !decide (n.Fibers.length ≤ 14) := by
      rw [← decide_not]; exact decide_eq_decide.2 (by omega)
    simp only [hw, e, Bool.not_true, cond_false, Option.bind_some, Bool.and_true]
    rcases bt (decide (n.Fibers.length ≤ 14)) with h14 | h14
    · simp only [h14, Bool.not_true, cond_false, Bool.and_true]
      rw [iter_anyI (f := M_spec_l2GoodL1 n) n.Nodes (nodeBad n) (.inr false) (.inl ()) (fun i x hx _ => by
        have hlt := (List.getElem?_eq_some_iff.1 hx).1
        have e1 : decide ((i : Int) < n.Nodes.length) = true := by simp [hlt]
        simp only [M_spec_l2GoodL1, e1, cond_true, geti_nat, hx, Option.bind_some, p_l2Name x (z3 x (List.mem_of_getElem? hx)), p_l2Find n.Nodes x z1, find_dup n i x hx, nodeBad]
        rw [w64_eq (by omega) (by omega)]
        rcases bt (nameB x) with e | e <;> rcases bt ((n.Nodes.take i).any (fun y => y.toList == x.toList)) with e' | e' <;> simp only [e, e'] <;> rfl) (by simp [M_spec_l2GoodL1]) (by omega)]
      rcases bt (anyI (nodeBad n) n.Nodes) with hN | hN
      · simp [hN]
      · simp only [hN, Bool.false_eq_true, if_false, Option.bind_some, Bool.not_false, Bool.true_and]
        rw [iter_anyI (f := M_spec_l2GoodL2 n) n.Fibers (fibBad n) (.inr false) (.inl ()) (fun i x hx hprev => by
          have hlt := (List.getElem?_eq_some_iff.1 hx).1
          have e1 : decide ((i : Int) < n.Fibers.length) = true := by simp [hlt]
          simp only [M_spec_l2GoodL2, e1, cond_true, geti_nat, hx, Option.bind_some, p_l2Fiber x n.Nodes.length (by omega) (by omega), Bool.not_not]
          rw [w64_eq (n := (i : Int) + 1) (by omega) (by omega)]
          unfold fibBad
          rcases bt (fib1 n.Nodes.length x) with h1 | h1
          · simp [h1]
          · simp only [h1, cond_false, Bool.false_or]
            by_cases hi : 0 < i
            · have hi' : decide ((0 : Int) < (i : Int)) = true := by simp [hi]
              have hp : n.Fibers[i - 1]? = some n.Fibers[i - 1] := List.getElem?_eq_getElem (by omega)
              have hw : IntKind.wrap .i64 ((i : Int) - 1) = ((i - 1 : Nat) : Int) := by rw [w64_eq (by omega) (by omega)]; omega
              have hb := hprev (i - 1) n.Fibers[i - 1] (by omega) hp
              unfold fibBad at hb
              simp only [Bool.or_eq_false_iff] at hb
              obtain ⟨r, r1, r2⟩ := p_before n.Fibers[i - 1] x n.Nodes.length (by omega) (fib1_ok hb.1) (fib1_ok h1)
              simp only [hi', cond_true, hw, geti_nat, hp, Option.bind_some, r1, r2, hi, decide_true, Bool.true_and]
              cases decide (0 < cmpF n.Fibers[i - 1] x) <;> rfl
            · have hi' : decide ((0 : Int) < (i : Int)) = false := by simp; omega
              simp [hi', hi]) (by simp [M_spec_l2GoodL2]) (by omega)]
        cases anyI (fibBad n) n.Fibers <;> rfl
    · simp [h14]
  · simp [hw]
end Vs

namespace Vs
open Go
/-! ### walks along a ring -/
def otherP (f : TFiber) (v : Int) : Int := if v = f.A then f.B else if v = f.B then f.A else -1
def othI (n : TNetwork) (e v : Int) : Int := match n.Fibers[e.toNat]? with | some f => otherP f v | none => -1
def badE (n : TNetwork) (ring : List Int) (i : Nat) (e : Int) : Bool := !wi e 0 ((n.Fibers.length : Int) - 1) || (ring.take i).any fun x => x == e
def stS (n : TNetwork) (ring : List Int) (i : Nat) (e : Int) (p : Int × List Int) : (Int × List Int) ⊕ ((Int × List Int) ⊕ (List Int × Bool)) :=
  if badE n ring i e || p.2.any (· == p.1) then .inr (.inr (p.2, false)) else if othI n e p.1 < 0 then .inr (.inr (p.2 ++ [p.1], false)) else .inl (othI n e p.1, p.2 ++ [p.1])
def stI (n : TNetwork) (ring : List Int) (i : Nat) (e : Int) (p : Int × List Int) : (Int × List Int) ⊕ ((Int × List Int) ⊕ (List Int × Int × Bool)) :=
  if badE n ring i e then .inr (.inr ([], 0, false)) else if othI n e p.1 < 0 then .inr (.inr ([], 0, false)) else .inl (othI n e p.1, p.2 ++ [p.1])
def wkS (n : TNetwork) (ring : List Int) (i : Nat) (ys : List Int) (p : Int × List Int) := walkL (stS n ring) (fun a => .inl a) i ys p
def wkI (n : TNetwork) (ring : List Int) (i : Nat) (ys : List Int) (p : Int × List Int) := walkL (stI n ring) (fun a => .inl a) i ys p
theorem wkI_pre (n : TNetwork) (ring : List Int) : ∀ (ys : List Int) (i : Nat) (p q : Int × List Int), wkI n ring i ys p = .inl q → ∃ t, q.2 = p.2 ++ t
  | [], _, p, q, h => by
    unfold wkI walkL at h
    cases h; exact ⟨[], by simp⟩
  | e :: ys, i, p, q, h => by
    unfold wkI at h
    rw [walkL] at h
    unfold stI at h
    split at h
    · rename_i a he
      split at he
      · cases he
      · split at he
        · cases he
        · cases he
          obtain ⟨t, ht⟩ := wkI_pre n ring ys (i + 1) _ q h
          exact ⟨[p.1] ++ t, by rw [ht]; simp⟩
    · rename_i b he
      split at he
      · cases he; cases h
      · split at he
        · cases he; cases h
        · cases he
/-- the statement's walk ends well: the program's does, and no node comes twice -/
theorem wk_iff (n : TNetwork) (ring : List Int) : ∀ (ys : List Int) (i : Nat) (p q : Int × List Int), p.2.Nodup → (wkS n ring i ys p = .inl q ↔ wkI n ring i ys p = .inl q ∧ q.2.Nodup)
  | [], i, p, q, hp => by
    unfold wkS wkI walkL
    constructor
    · intro h; cases h; exact ⟨rfl, hp⟩
    · rintro ⟨h, _⟩; cases h; rfl
  | e :: ys, i, p, q, hp => by
    have eS : wkS n ring i (e :: ys) p = match stS n ring i e p with | .inl a => wkS n ring (i + 1) ys a | .inr b => b := by
      unfold wkS; rw [walkL]; cases stS n ring i e p <;> rfl
    have eI : wkI n ring i (e :: ys) p = match stI n ring i e p with | .inl a => wkI n ring (i + 1) ys a | .inr b => b := by
      unfold wkI; rw [walkL]; cases stI n ring i e p <;> rfl
    rw [eS, eI]
    unfold stS stI
    by_cases hb : badE n ring i e = true
    · simp [hb]
    · by_cases ho : othI n e p.1 < 0
      · by_cases hv : p.2.any (· == p.1) = true <;> simp [hb, ho, hv]
      · by_cases hv : p.2.any (· == p.1) = true
        · have hm : p.1 ∈ p.2 := by
            obtain ⟨x, hx, hxe⟩ := List.any_eq_true.1 hv
            rw [← eq_of_beq hxe]; exact hx
          simp only [hb, ho, hv, Bool.or_true, if_true, if_false, Bool.false_eq_true]
          constructor
          · intro h; cases h
          · rintro ⟨h, hq⟩
            obtain ⟨t, ht⟩ := wkI_pre n ring ys (i + 1) _ q h
            rw [ht] at hq
            have h1 := (List.nodup_append.1 hq).1
            have h2 := (List.nodup_append.1 h1).2.2
            exact (h2 p.1 hm p.1 (by simp) rfl).elim
        · have hm : p.1 ∉ p.2 := fun h => hv (List.any_eq_true.2 ⟨p.1, h, by simp⟩)
          simp only [hb, ho, hv, Bool.or_self, if_false, Bool.false_eq_true]
          exact wk_iff n ring ys (i + 1) _ q (List.nodup_append.2 ⟨hp, by simp, fun a ha b hb' => by
            simp only [List.mem_singleton] at hb'
            subst hb'
            intro e; subst e; exact hm ha⟩)
end Vs

namespace Vs
open Go
theorem p_l1Has (l : List Int) (x : Int) (hl : l.length ≤ 1048576) : M_spec_l1Has l x = some (l.any fun y => y == x) := by
  unfold M_spec_l1Has
  rw [iter_any (f := M_spec_l1HasL1 l x) l (fun y => y == x) (.inr true) (.inl ()) (fun i y hy => by
    have hlt := (List.getElem?_eq_some_iff.1 hy).1
    have h1 : decide ((i : Int) < l.length) = true := by simp [hlt]
    simp only [M_spec_l1HasL1, h1, cond_true, geti_nat, hy, Option.bind_some]
    rw [w64_eq (by omega) (by omega)]
    cases y == x <;> rfl) (by simp [M_spec_l1HasL1]) (by omega)]
  cases l.any fun y => y == x <;> rfl
theorem geti_fib {n : TNetwork} {e : Int} (h : wi e 0 ((n.Fibers.length : Int) - 1) = true) : ∃ f, geti n.Fibers e = some f ∧ n.Fibers[e.toNat]? = some f := by
  rw [wi_iff] at h
  have hlt : e.toNat < n.Fibers.length := by omega
  refine ⟨n.Fibers[e.toNat], ?_, List.getElem?_eq_getElem hlt⟩
  have h3 := geti_nat n.Fibers e.toNat
  rw [Int.toNat_of_nonneg h.1] at h3
  rw [h3]
  exact List.getElem?_eq_getElem hlt
theorem p_l2Other (n : TNetwork) (e v : Int) (h : wi e 0 ((n.Fibers.length : Int) - 1) = true) : M_spec_l2Other n e v = some (othI n e v) := by
  obtain ⟨f, h1, h2⟩ := geti_fib h
  unfold M_spec_l2Other othI otherP
  rw [h1, h2]
  simp only [Option.bind_some]
  by_cases a : v = f.A
  · rw [show (v == f.A) = true from by simpa using a, cond_true, if_pos a]
  · rw [show (v == f.A) = false from by simpa using a, cond_false, if_neg a]
    by_cases b : v = f.B
    · rw [show (v == f.B) = true from by simpa using b, cond_true, if_pos b]
    · rw [show (v == f.B) = false from by simpa using b, cond_false, if_neg b]
theorem p_walkL (n : TNetwork) (ring : List Int) (fr : Int) (hF : n.Fibers.length ≤ 1048576) (hr : ring.length ≤ 1048576) : iter (M_spec_l17WalkL1 n ring) N0 (fr, 0, []) = some (wkS n ring 0 ring (fr, [])) := by
  refine iter_list (f := M_spec_l17WalkL1 n ring) ring (fun i (p : Int × List Int) => (p.1, (i : Int), p.2)) (stS n ring) (fun a => .inl a) (fun i p => p.2.length = i) (fun i p e he hI => ?_) (fun p hI => by simp [M_spec_l17WalkL1]) (fr, []) rfl (by omega)
  have hlt := (List.getElem?_eq_some_iff.1 he).1
  have h1 : decide ((i : Int) < ring.length) = true := by simp [hlt]
  have hf : M_spec_l17WalkL1 n ring (p.1, (i : Int), p.2) = some (match stS n ring i e p with | .inl a => .inl (a.1, ((i + 1 : Nat) : Int), a.2) | .inr b => .inr b) := by
    simp only [M_spec_l17WalkL1, h1, cond_true, geti_nat, he, Option.bind_some, p_l1In, slT_nat ring i (by omega), p_l1Has (ring.take i) e (by simp; omega), p_l1Has p.2 p.1 (by omega), w64_eq (n := (n.Fibers.length : Int) - 1) (by omega) (by omega), w64_eq (n := (i : Int) + 1) (by omega) (by omega), bnd]
    unfold stS badE
    rcases bt (wi e 0 ((n.Fibers.length : Int) - 1)) with e1 | e1
    · rcases bt ((ring.take i).any fun x => x == e) with e2 | e2
      · simp [e1, e2]
      · rcases bt (p.2.any fun y => y == p.1) with e3 | e3
        · simp [e1, e2, e3]
        · simp only [e1, e2, e3, Bool.not_true, cond_false, Option.bind_some, Bool.or_self, Bool.false_eq_true, if_false, p_l2Other n e p.1 e1]
          rw [grd_t (by omega)]
          by_cases h3 : othI n e p.1 < 0
          · simp [h3]
          · simp [h3]
    · simp [e1]
  cases hs : stS n ring i e p with
  | inl a =>
    left
    rw [hs] at hf
    refine ⟨a, rfl, ?_, hf⟩
    unfold stS at hs
    split at hs
    · cases hs
    · split at hs
      · cases hs
      · cases hs; simp [hI]
  | inr b =>
    right
    rw [hs] at hf
    exact ⟨b, rfl, hf⟩
end Vs

namespace Vs
open Go
theorem p_ContI (xs : List Int) (v : Int) (hl : xs.length ≤ 1048576) : M_slices_Contains_Lint_int xs v = some (decide (v ∈ xs)) := by
  unfold M_slices_Contains_Lint_int M_slices_Index_Lint_int
  rw [iter_findI (f := M_slices_Index_Lint_intL1 xs v) xs (fun _ x => v == x) (fun i _ => (i : Int)) () (fun i x hx _ => by
    have hlt := (List.getElem?_eq_some_iff.1 hx).1
    have h1 : decide ((i : Int) < xs.length) = true := by simp [hlt]
    simp only [M_slices_Index_Lint_intL1, h1, cond_true, geti_nat, hx, Option.bind_some]
    rw [w64_eq (by omega) (by omega)]
    cases v == x <;> rfl) (by simp [M_slices_Index_Lint_intL1]) (by omega)]
  cases e : findI (fun _ x => v == x) xs with
  | none =>
    have := findI_none.1 e
    have h : ¬ v ∈ xs := fun hm => by
      obtain ⟨i, hi⟩ := List.getElem?_of_mem hm
      have := this i v hi
      simp at this
    rw [decide_eq_false h]; rfl
  | some q =>
    obtain ⟨i, x⟩ := q
    obtain ⟨h1, h2, _⟩ := findI_some.1 e
    have h : v ∈ xs := by
      have := eq_of_beq h2
      rw [this]; exact List.mem_of_getElem? h1
    rw [decide_eq_true h]; simp
theorem p_otherEnd (f : TFiber) (v : Int) : M_impl_otherEnd f v = some (otherP f v) := by
  unfold M_impl_otherEnd otherP
  by_cases a : v = f.A
  · rw [show (v == f.A) = true from by simpa using a, cond_true, if_pos a]
  · rw [show (v == f.A) = false from by simpa using a, cond_false, if_neg a]
    by_cases b : v = f.B
    · rw [show (v == f.B) = true from by simpa using b, cond_true, if_pos b]
    · rw [show (v == f.B) = false from by simpa using b, cond_false, if_neg b]
theorem any_mem (l : List Int) (e : Int) : decide (e ∈ l) = l.any fun x => x == e := by
  rw [Bool.eq_iff_iff, decide_eq_true_iff, List.any_eq_true]
  constructor
  · intro h; exact ⟨e, h, by simp⟩
  · rintro ⟨x, hx, he⟩; rw [← eq_of_beq he]; exact hx
theorem p_followL (n : TNetwork) (ring : List Int) (fr : Int) (hF : n.Fibers.length ≤ 1048576) (hr : ring.length ≤ 1048576) : iter (M_impl_followedL1 n ring) N0 (fr, 0, []) = some (wkI n ring 0 ring (fr, [])) := by
  refine iter_list (f := M_impl_followedL1 n ring) ring (fun i (p : Int × List Int) => (p.1, (i : Int), p.2)) (stI n ring) (fun a => .inl a) (fun i p => p.2.length = i) (fun i p e he hI => ?_) (fun p hI => by simp [M_impl_followedL1]) (fr, []) rfl (by omega)
  have hlt := (List.getElem?_eq_some_iff.1 he).1
  have h1 : decide ((i : Int) < ring.length) = true := by simp [hlt]
  have hf : M_impl_followedL1 n ring (p.1, (i : Int), p.2) = some (match stI n ring i e p with | .inl a => .inl (a.1, ((i + 1 : Nat) : Int), a.2) | .inr b => .inr b) := by
    simp only [M_impl_followedL1, h1, cond_true, geti_nat, he, Option.bind_some, p_within, slT_nat ring i (by omega), p_ContI (ring.take i) e (by simp; omega), w64_eq (n := (n.Fibers.length : Int) - 1) (by omega) (by omega), w64_eq (n := (i : Int) + 1) (by omega) (by omega), bnd, any_mem]
    unfold stI badE
    rcases bt (wi e 0 ((n.Fibers.length : Int) - 1)) with e1 | e1
    · rcases bt ((ring.take i).any fun x => x == e) with e2 | e2
      · simp [e1, e2]
      · obtain ⟨f, g1, g2⟩ := geti_fib e1
        have ho : othI n e p.1 = otherP f p.1 := by unfold othI; rw [g2]
        simp only [e1, e2, Bool.not_true, cond_false, Option.bind_some, Bool.or_self, Bool.false_eq_true, if_false, g1, p_otherEnd, ho]
        rw [grd_t (by omega)]
        by_cases h3 : otherP f p.1 < 0
        · simp [h3]
        · simp [h3]
    · simp [e1]
  cases hs : stI n ring i e p with
  | inl a =>
    left
    rw [hs] at hf
    refine ⟨a, rfl, ?_, hf⟩
    unfold stI at hs
    split at hs
    · cases hs
    · split at hs
      · cases hs
      · cases hs; simp [hI]
  | inr b =>
    right
    rw [hs] at hf
    exact ⟨b, rfl, hf⟩
end Vs

namespace Vs
open Go
/-! ### rings: both sides say the same -/
theorem netOk_bR {n : TNetwork} (h : netOk n = true) : 2 ≤ n.Nodes.length ∧ n.Nodes.length ≤ 8 ∧ n.Fibers.length ≤ 14 := by
  unfold netOk at h
  simp only [Bool.and_eq_true, decide_eq_true_eq, wi_iff] at h
  omega
theorem netOk_fibR {n : TNetwork} (h : netOk n = true) {i : Nat} {f : TFiber} (hf : n.Fibers[i]? = some f) : FibOk n.Nodes.length f := by
  unfold netOk at h
  simp only [Bool.and_eq_true, Bool.not_eq_true'] at h
  have := anyI_false.1 h.1.1.2 i f hf
  unfold fibBad at this
  simp only [Bool.or_eq_false_iff] at this
  exact fib1_ok this.1
theorem wkS_cons (n : TNetwork) (ring : List Int) (i : Nat) (e : Int) (ys : List Int) (p : Int × List Int) : wkS n ring i (e :: ys) p = match stS n ring i e p with | .inl a => wkS n ring (i + 1) ys a | .inr b => b := by
  unfold wkS; rw [walkL]; cases stS n ring i e p <;> rfl
theorem wkI_cons (n : TNetwork) (ring : List Int) (i : Nat) (e : Int) (ys : List Int) (p : Int × List Int) : wkI n ring i (e :: ys) p = match stI n ring i e p with | .inl a => wkI n ring (i + 1) ys a | .inr b => b := by
  unfold wkI; rw [walkL]; cases stI n ring i e p <;> rfl
theorem wkS_bad (n : TNetwork) (ring : List Int) : ∀ (ys : List Int) (i : Nat) (p : Int × List Int) (x : List Int × Bool), wkS n ring i ys p = .inr x → x.2 = false
  | [], i, p, x, h => by unfold wkS walkL at h; cases h
  | e :: ys, i, p, x, h => by
    rw [wkS_cons] at h
    unfold stS at h
    by_cases h1 : (badE n ring i e || p.2.any (· == p.1)) = true
    · rw [if_pos h1] at h; cases h; rfl
    · rw [if_neg h1] at h
      by_cases h2 : othI n e p.1 < 0
      · rw [if_pos h2] at h; cases h; rfl
      · rw [if_neg h2] at h; exact wkS_bad n ring ys (i + 1) _ x h
theorem wkI_bad (n : TNetwork) (ring : List Int) : ∀ (ys : List Int) (i : Nat) (p : Int × List Int) (x : List Int × Int × Bool), wkI n ring i ys p = .inr x → x = ([], 0, false)
  | [], i, p, x, h => by unfold wkI walkL at h; cases h
  | e :: ys, i, p, x, h => by
    rw [wkI_cons] at h
    unfold stI at h
    by_cases h1 : badE n ring i e = true
    · rw [if_pos h1] at h; cases h; rfl
    · rw [if_neg h1] at h
      by_cases h2 : othI n e p.1 < 0
      · rw [if_pos h2] at h; cases h; rfl
      · rw [if_neg h2] at h; exact wkI_bad n ring ys (i + 1) _ x h
/-- what a walk that ends well has passed -/
theorem wkI_ok (n : TNetwork) (ring : List Int) : ∀ (ys : List Int) (i : Nat) (p q : Int × List Int), wkI n ring i ys p = .inl q → ∀ j e, ys[j]? = some e → badE n ring (i + j) e = false
  | [], i, p, q, _, j, e, h => by simp at h
  | y :: ys, i, p, q, h, j, e, hj => by
    rw [wkI_cons] at h
    unfold stI at h
    by_cases h1 : badE n ring i y = true
    · rw [if_pos h1] at h; cases h
    · rw [if_neg h1] at h
      by_cases h2 : othI n y p.1 < 0
      · rw [if_pos h2] at h; cases h
      · rw [if_neg h2] at h
        cases j with
        | zero => simp at hj; subst hj; simpa using h1
        | succ j =>
          have := wkI_ok n ring ys (i + 1) _ q h j e (by simpa using hj)
          rw [show i + (j + 1) = i + 1 + j by omega]; exact this
theorem badE_wi {n : TNetwork} {ring : List Int} {i : Nat} {e : Int} (h : badE n ring i e = false) : wi e 0 ((n.Fibers.length : Int) - 1) = true ∧ e ∉ ring.take i := by
  unfold badE at h
  simp only [Bool.or_eq_false_iff, Bool.not_eq_false'] at h
  refine ⟨h.1, fun hm => ?_⟩
  have := h.2
  rw [← any_mem] at this
  simp [hm] at this
theorem nodup_of {xs : List Int} (h : ∀ j e, xs[j]? = some e → e ∉ xs.take j) : xs.Nodup := by
  rw [List.nodup_iff_pairwise_ne, List.pairwise_iff_getElem]
  intro i j hi hj hij e
  refine h j xs[j] (List.getElem?_eq_getElem hj) ?_
  rw [← e]
  have h2 : (xs.take j)[i]? = some xs[i] := by rw [List.getElem?_take, if_pos hij]; exact List.getElem?_eq_getElem hi
  exact List.mem_of_getElem? h2
theorem nodup_take {xs : List Int} (h : xs.Nodup) {j : Nat} {e : Int} (hj : xs[j]? = some e) : e ∉ xs.take j := by
  intro hm
  obtain ⟨i, hi⟩ := List.getElem?_of_mem hm
  rw [List.getElem?_take] at hi
  split at hi
  · rename_i hij
    obtain ⟨h1, h2⟩ := List.getElem?_eq_some_iff.1 hi
    obtain ⟨h3, h4⟩ := List.getElem?_eq_some_iff.1 hj
    have := (List.pairwise_iff_getElem.1 (List.nodup_iff_pairwise_ne.1 h)) i j h1 h3 hij
    exact this (h2.trans h4.symm)
  · cases hi
theorem wkI_nodup {n : TNetwork} {ring : List Int} {p q : Int × List Int} (h : wkI n ring 0 ring p = .inl q) : ring.Nodup :=
  nodup_of fun j e hj => by
    have := wkI_ok n ring ring 0 p q h j e hj
    rw [Nat.zero_add] at this
    exact (badE_wi this).2
theorem wkI_two {n : TNetwork} {ring : List Int} {e0 e1 : Int} {t : List Int} (hr : ring = e0 :: e1 :: t) {v : Int} {q : Int × List Int} (h : wkI n ring 0 ring (v, []) = .inl q) :
    wi e0 0 ((n.Fibers.length : Int) - 1) = true ∧ 0 ≤ othI n e0 v ∧ ∃ s, q.2 = v :: othI n e0 v :: s := by
  have hb := wkI_ok n ring ring 0 _ q h 0 e0 (by rw [hr]; rfl)
  have h1 := h
  conv at h1 => lhs; arg 4; rw [hr]
  rw [wkI_cons] at h1
  unfold stI at h1
  rw [if_neg (by rw [hb]; simp)] at h1
  by_cases h2 : othI n e0 v < 0
  · rw [if_pos h2] at h1; cases h1
  · rw [if_neg h2] at h1
    simp only at h1
    rw [wkI_cons] at h1
    unfold stI at h1
    by_cases h3 : badE n ring (0 + 1) e1 = true
    · rw [if_pos h3] at h1; cases h1
    · rw [if_neg h3] at h1
      simp only at h1
      by_cases h4 : othI n e1 (othI n e0 v) < 0
      · rw [if_pos h4] at h1; cases h1
      · rw [if_neg h4] at h1
        obtain ⟨s, hs⟩ := wkI_pre n ring t _ _ q h1
        exact ⟨(badE_wi hb).1, by omega, s, by rw [hs]; simp⟩
/-- where the program's walk starts -/
def startA (n : TNetwork) (ring : List Int) : Int := match ring[0]? with
  | some e => match n.Fibers[e.toNat]? with
    | some f => f.A
    | none => -1
  | none => -1
def difB (a b : List Int) : Option (Nat × Int × Int) := findI (fun _ q => q.1 != q.2) (a.zip b)
def lexB (a b : List Int) : Bool := match difB a b with
  | some q => decide (q.2.1 < q.2.2)
  | none => false
def ringP (n : TNetwork) (ring : List Int) : Option (List Int) := if 2 ≤ ring.length then (match wkI n ring 0 ring (startA n ring, []) with
  | .inl q => if q.1 = startA n ring ∧ q.2.Nodup ∧ (∀ x ∈ q.2, startA n ring ≤ x) ∧ lexB ring ring.reverse = true then some q.2 else none
  | .inr _ => none) else none
def okS (n : TNetwork) (ring : List Int) (v : Int) : Bool := match wkS n ring 0 ring (v, []) with
  | .inl q => decide (q.1 = v) && decide (1 < ring.length)
  | .inr _ => false
def ndS (n : TNetwork) (ring : List Int) (v : Int) : List Int := match wkS n ring 0 ring (v, []) with
  | .inl q => q.2
  | .inr x => x.1
theorem okS_iff {n : TNetwork} {ring : List Int} {v : Int} : okS n ring v = true ↔ wkI n ring 0 ring (v, []) = .inl (v, ndS n ring v) ∧ (ndS n ring v).Nodup ∧ 2 ≤ ring.length := by
  unfold okS ndS
  cases h : wkS n ring 0 ring (v, []) with
  | inl q =>
    obtain ⟨h1, h2⟩ := (wk_iff n ring ring 0 (v, []) q List.nodup_nil).1 h
    simp only [Bool.and_eq_true, decide_eq_true_eq]
    constructor
    · rintro ⟨rfl, h4⟩; exact ⟨h1, h2, h4⟩
    · rintro ⟨h3, _, h4⟩
      rw [h1] at h3
      have h5 := congrArg Prod.fst (Sum.inl.inj h3)
      exact ⟨h5, by omega⟩
  | inr x =>
    simp only [Bool.false_eq_true, false_iff]
    rintro ⟨h3, h4, _⟩
    have := (wk_iff n ring ring 0 (v, []) (v, x.1) List.nodup_nil).2 ⟨h3, h4⟩
    rw [h] at this; cases this
theorem difB_swap (a b : List Int) : difB b a = (difB a b).map fun q => (q.1, q.2.2, q.2.1) := by
  unfold difB
  have z : ∀ (i : Nat) (x : Int × Int), (b.zip a)[i]? = some x ↔ (a.zip b)[i]? = some (x.2, x.1) := by
    intro i x
    rw [List.getElem?_zip_eq_some, List.getElem?_zip_eq_some]; exact And.comm
  cases h : findI (fun _ q => q.1 != q.2) (a.zip b) with
  | none =>
    have := findI_none.1 h
    simp only [Option.map_none]
    rw [findI_none]
    intro i x hx
    have := this i _ ((z i x).1 hx)
    simp only [bne_eq_false_iff_eq] at this ⊢
    exact this.symm
  | some q =>
    obtain ⟨i, u, v⟩ := q
    obtain ⟨h1, h2, h3⟩ := findI_some.1 h
    simp only [Option.map_some]
    rw [findI_some]
    refine ⟨(z i (v, u)).2 h1, ?_, fun j y hj hy => ?_⟩
    · simp only [bne_iff_ne, ne_eq] at h2 ⊢; exact fun e => h2 e.symm
    · have := h3 j _ hj ((z j y).1 hy)
      simp only [bne_eq_false_iff_eq] at this ⊢
      exact this.symm
theorem lexB_swap {a b : List Int} (h : (difB a b).isSome = true) : lexB a b = !lexB b a := by
  unfold lexB
  rw [difB_swap a b]
  cases hd : difB a b with
  | none => rw [hd] at h; cases h
  | some q =>
    obtain ⟨h1, h2, h3⟩ := findI_some.1 (show findI (fun _ q => q.1 != q.2) (a.zip b) = some (q.1, q.2) from hd)
    simp only [bne_iff_ne, ne_eq] at h2
    simp only [Option.map_some]
    rw [← decide_not]
    exact decide_eq_decide.2 (by omega)
theorem dif_rev {ring : List Int} (h : ring.Nodup) (hl : 2 ≤ ring.length) : (difB ring ring.reverse).isSome = true := by
  cases hd : difB ring ring.reverse with
  | some q => rfl
  | none =>
    exfalso
    have h0 : 0 < ring.length := by omega
    have hz : (ring.zip ring.reverse)[0]? = some (ring[0], ring[ring.length - 1]) := by
      rw [List.getElem?_zip_eq_some]
      refine ⟨List.getElem?_eq_getElem h0, ?_⟩
      rw [List.getElem?_reverse h0, Nat.sub_zero]
      exact List.getElem?_eq_getElem (by omega)
    have := findI_none.1 (show findI (fun _ q => q.1 != q.2) (ring.zip ring.reverse) = none from hd) 0 _ hz
    simp only [bne_eq_false_iff_eq] at this
    exact (List.pairwise_iff_getElem.1 (List.nodup_iff_pairwise_ne.1 h)) 0 (ring.length - 1) h0 (by omega) (by omega) this
/-- only the two ends of the first fiber can start a walk -/
theorem start_two {n : TNetwork} (hn : netOk n = true) {ring : List Int} {v : Int} (h : okS n ring v = true) : ∃ e0 f, ring[0]? = some e0 ∧ n.Fibers[e0.toNat]? = some f ∧ startA n ring = f.A ∧ FibOk n.Nodes.length f ∧ (v = f.A ∨ v = f.B) ∧
    ∃ s, ndS n ring v = v :: otherP f v :: s := by
  obtain ⟨h1, h2, h3⟩ := okS_iff.1 h
  match hr : ring, h3 with
  | e0 :: e1 :: t, _ =>
    rw [← hr] at h1
    obtain ⟨g1, g2, s, g3⟩ := wkI_two hr h1
    obtain ⟨f, _, g4⟩ := geti_fib g1
    have g5 := netOk_fibR hn g4
    refine ⟨e0, f, rfl, g4, ?_, g5, ?_, s, ?_⟩
    · unfold startA
      simp only [List.getElem?_cons_zero, g4]
    · unfold othI otherP at g2
      rw [g4] at g2
      simp only at g2
      by_cases a : v = f.A
      · exact .inl a
      · rw [if_neg a] at g2
        by_cases b : v = f.B
        · exact .inr b
        · rw [if_neg b] at g2; omega
    · rw [← hr]
      have e : othI n e0 v = otherP f v := by unfold othI; rw [g4]
      rw [← e]; exact g3
theorem ringP_some {n : TNetwork} {ring l : List Int} : ringP n ring = some l ↔ okS n ring (startA n ring) = true ∧ ndS n ring (startA n ring) = l ∧ (∀ x ∈ l, startA n ring ≤ x) ∧ lexB ring ring.reverse = true := by
  unfold ringP
  constructor
  · intro h
    split at h
    · rename_i h2
      split at h
      · rename_i q hq
        split at h
        · rename_i hc
          cases h
          obtain ⟨c1, c2, c3, c4⟩ := hc
          have hS := (wk_iff n ring ring 0 (startA n ring, []) q List.nodup_nil).2 ⟨hq, c2⟩
          refine ⟨?_, ?_, c3, c4⟩
          · unfold okS; rw [hS]; simp only [Bool.and_eq_true, decide_eq_true_eq]; exact ⟨c1, by omega⟩
          · unfold ndS; rw [hS]
        · cases h
      · cases h
    · cases h
  · rintro ⟨h1, rfl, h3, h4⟩
    obtain ⟨g1, g2, g3⟩ := okS_iff.1 h1
    rw [if_pos g3, g1]
    simp only
    rw [if_pos (by exact ⟨by simp, g2, h3, h4⟩)]
end Vs

namespace Vs
open Go
theorem p_l17Walk (n : TNetwork) (ring : List Int) (v : Int) (hF : n.Fibers.length ≤ 1048576) (hr : ring.length ≤ 1048576) : M_spec_l17Walk n ring v = some (ndS n ring v, okS n ring v) := by
  unfold M_spec_l17Walk
  rw [p_walkL n ring v hF hr]
  unfold ndS okS
  cases h : wkS n ring 0 ring (v, []) with
  | inl q =>
    simp only [Option.bind_some]
    by_cases e : q.1 = v
    · have e1 : (q.1 == v) = true := by simpa using e
      have e2 : decide (1 < (ring.length : Int)) = decide (1 < ring.length) := decide_eq_decide.2 (by omega)
      simp [e, e2]
    · have e1 : (q.1 == v) = false := by simpa using e
      simp [e, e1]
  | inr x =>
    have := wkS_bad n ring ring 0 _ x h
    simp only [Option.bind_some]
    obtain ⟨x1, x2⟩ := x
    simp only at this; subst this; rfl
theorem walkL_all {α : Type} (p : α → Bool) : ∀ (xs : List α) (i : Nat) (a : Bool), walkL (fun _ x (a : Bool) => (.inl (a && p x) : Bool ⊕ Bool)) (fun a => a) i xs a = (a && xs.all p)
  | [], i, a => by simp [walkL]
  | x :: xs, i, a => by simp only [walkL]; rw [walkL_all p xs (i + 1)]; simp [Bool.and_assoc]
theorem p_GoodL2 (v : Int) (r : List Int × Bool) (hl : r.1.length ≤ 1048576) : iter (M_spec_l17GoodL2 v r) N0 (true, 0) = some (r.1.all fun y => decide (v ≤ y)) := by
  have := iter_list (f := M_spec_l17GoodL2 v r) r.1 (fun i (a : Bool) => (a, (i : Int))) (fun _ x a => .inl (a && decide (v ≤ x))) (fun a => a) (fun _ _ => True) (fun i a x hx _ => by
    have hlt := (List.getElem?_eq_some_iff.1 hx).1
    have h1 : decide ((i : Int) < r.1.length) = true := by simp [hlt]
    refine .inl ⟨_, rfl, trivial, ?_⟩
    simp only [M_spec_l17GoodL2, h1, cond_true]
    rw [w64_eq (by omega) (by omega)]
    cases a with
    | false => rfl
    | true =>
      rw [cond_true, grd_t (by omega)]
      simp only [Option.bind_some, Int.toNat_natCast, hx, Bool.true_and]
      rfl) (fun a _ => by simp [M_spec_l17GoodL2]) true trivial (by omega)
  rw [walkL_all] at this
  simpa using this
theorem walkL_push : ∀ (xs : List Int) (i : Nat) (a : List Int), walkL (fun _ x (a : List Int) => (.inl (a ++ [x]) : List Int ⊕ List Int)) (fun a => a) i xs a = a ++ xs
  | [], i, a => by simp [walkL]
  | x :: xs, i, a => by simp only [walkL]; rw [walkL_push xs (i + 1)]; simp
theorem p_l17Back (ring : List Int) (hr : ring.length ≤ 1048576) : M_spec_l17Back ring = some ring.reverse := by
  unfold M_spec_l17Back
  rw [w64_eq (by omega) (by omega)]
  have := iter_list (f := M_spec_l17BackL1 ring) ring.reverse (fun i (a : List Int) => ((ring.length : Int) - 1 - (i : Int), a)) (fun _ x a => .inl (a ++ [x])) (fun a => a) (fun i a => a.length = i) (fun i a x hx hI => by
    have hlt := (List.getElem?_eq_some_iff.1 hx).1
    rw [List.length_reverse] at hlt
    rw [List.getElem?_reverse hlt] at hx
    have h1 : decide (0 ≤ (ring.length : Int) - 1 - (i : Int)) = true := decide_eq_true (by omega)
    refine .inl ⟨_, rfl, by simp [hI], ?_⟩
    have e : (ring.length : Int) - 1 - (i : Int) = ((ring.length - 1 - i : Nat) : Int) := by omega
    rw [e] at h1
    simp only [M_spec_l17BackL1, h1, cond_true, e, geti_nat, hx, Option.bind_some, bnd]
    rw [grd_t (by omega), w64_eq (by omega) (by omega)]
    simp only [Option.bind_some]
    rw [show ((ring.length - 1 - i : Nat) : Int) - 1 = (ring.length : Int) - 1 - ((i + 1 : Nat) : Int) by omega]) (fun a _ => by
    have h1 : decide (0 ≤ (ring.length : Int) - 1 - (ring.reverse.length : Int)) = false := decide_eq_false (by rw [List.length_reverse]; omega)
    simp only [M_spec_l17BackL1, h1, cond_false]) [] rfl (by rw [List.length_reverse]; omega)
  rw [walkL_push] at this
  have e : (ring.length : Int) - 1 - ((0 : Nat) : Int) = (ring.length : Int) - 1 := by omega
  rw [e] at this
  rw [this]; rfl
theorem zip_len {a b : List Int} (h : a.length = b.length) : (a.zip b).length = a.length := by simp [h]
theorem p_l17Less (a b : List Int) (h : a.length = b.length) (hl : a.length ≤ 1048576) : M_spec_l17Less a b = some (lexB a b) := by
  unfold M_spec_l17Less
  have e : ((a.length : Int) != (b.length : Int)) = false := by rw [h]; simp
  rw [e, cond_false]
  rw [iter_findI (f := M_spec_l17LessL1 a b) (a.zip b) (fun _ q => q.1 != q.2) (fun _ q => decide (q.1 < q.2)) () (fun i q hq _ => by
    obtain ⟨h1, h2⟩ := List.getElem?_zip_eq_some.1 hq
    have hlt := (List.getElem?_eq_some_iff.1 h1).1
    have h3 : decide ((i : Int) < a.length) = true := by simp [hlt]
    simp only [M_spec_l17LessL1, h3, cond_true, geti_nat, h1, h2, Option.bind_some]
    rw [w64_eq (by omega) (by omega)]
    cases q.1 != q.2 <;> rfl) (by rw [zip_len h]; simp [M_spec_l17LessL1]) (by rw [zip_len h]; omega)]
  unfold lexB difB
  cases findI (fun _ q => q.1 != q.2) (a.zip b) <;> rfl
theorem p_CompareI (a b : List Int) (h : a.length = b.length) (hl : a.length ≤ 1048576) : ∃ r, M_slices_Compare_Lint_int a b = some r ∧ decide (r < 0) = lexB a b := by
  unfold M_slices_Compare_Lint_int
  rw [iter_findI (f := M_slices_Compare_Lint_intL1 a b) (a.zip b) (fun _ q => q.1 != q.2) (fun _ q => cmpI q.1 q.2) () (fun i q hq _ => by
    obtain ⟨h1, h2⟩ := List.getElem?_zip_eq_some.1 hq
    have hlt := (List.getElem?_eq_some_iff.1 h1).1
    have h3 : decide ((i : Int) < a.length) = true := by simp [hlt]
    have h4 : decide ((b.length : Int) ≤ (i : Int)) = false := by simp; omega
    simp only [M_slices_Compare_Lint_intL1, h3, h4, cond_true, cond_false, geti_nat, h1, h2, Option.bind_some, p_cmp]
    rw [w64_eq (by omega) (by omega)]
    by_cases e : q.1 = q.2
    · have e1 : (cmpI q.1 q.2 != 0) = false := by rw [cmpI_zero.2 e]; rfl
      have e2 : (q.1 != q.2) = false := by rw [e]; simp
      rw [e1, e2]; rfl
    · have e1 : (cmpI q.1 q.2 != 0) = true := bne_iff_ne.2 fun e' => e (cmpI_zero.1 e')
      have e2 : (q.1 != q.2) = true := bne_iff_ne.2 e
      rw [e1, e2]; rfl) (by rw [zip_len h]; simp [M_slices_Compare_Lint_intL1]) (by rw [zip_len h]; omega)]
  unfold lexB difB
  cases hf : findI (fun _ q => q.1 != q.2) (a.zip b) with
  | none =>
    have e : decide ((a.length : Int) < (b.length : Int)) = false := by rw [h]; simp
    exact ⟨0, by simp only [Option.bind_some, e, cond_false], rfl⟩
  | some q =>
    refine ⟨cmpI q.2.1 q.2.2, rfl, ?_⟩
    unfold cmpI
    by_cases h1 : q.2.1 < q.2.2
    · simp [h1]
    · by_cases h2 : q.2.2 < q.2.1 <;> simp [h1, h2]
theorem nd_len {n : TNetwork} {ring : List Int} {v : Int} (hF : n.Fibers.length ≤ 1048576) (hr : ring.length ≤ 1048576) (h : okS n ring v = true) : (ndS n ring v).length = ring.length := by
  obtain ⟨h1, _, _⟩ := okS_iff.1 h
  have key : ∀ (ys : List Int) (i : Nat) (p q : Int × List Int), wkI n ring i ys p = .inl q → q.2.length = p.2.length + ys.length := by
    intro ys
    induction ys with
    | nil => intro i p q h; unfold wkI walkL at h; cases h; simp
    | cons e ys ih =>
      intro i p q h
      rw [wkI_cons] at h
      unfold stI at h
      by_cases h1 : badE n ring i e = true
      · rw [if_pos h1] at h; cases h
      · rw [if_neg h1] at h
        by_cases h2 : othI n e p.1 < 0
        · rw [if_pos h2] at h; cases h
        · rw [if_neg h2] at h
          have := ih (i + 1) _ q h
          simp only [List.length_append, List.length_cons, List.length_nil] at this ⊢
          omega
  have := key ring 0 _ _ h1
  simpa using this
/-- the first start that goes well is the smaller end of the first fiber -/
theorem first_start {n : TNetwork} (hn : netOk n = true) {ring : List Int} {i : Nat} {x : ByteArray} (h : findI (fun i (_ : ByteArray) => okS n ring (i : Int)) n.Nodes = some (i, x)) :
    ((i : Int) = startA n ring ∧ okS n ring (startA n ring) = true) ∨ (okS n ring (startA n ring) = false ∧ ¬ ∀ y ∈ ndS n ring (i : Int), (i : Int) ≤ y) := by
  obtain ⟨h1, h2, h3⟩ := findI_some.1 h
  obtain ⟨e0, f, g1, g2, g3, g4, g5, s, g6⟩ := start_two hn h2
  obtain ⟨a0, ab, bm, _⟩ := g4
  rcases g5 with g5 | g5
  · left; rw [g3, ← g5]; exact ⟨rfl, h2⟩
  · right
    have hlt : f.A.toNat < i := by omega
    have hil := (List.getElem?_eq_some_iff.1 h1).1
    have := h3 f.A.toNat n.Nodes[f.A.toNat] hlt (List.getElem?_eq_getElem (by omega))
    rw [Int.toNat_of_nonneg a0] at this
    refine ⟨by rw [g3]; exact this, fun hall => ?_⟩
    have hm : otherP f (i : Int) ∈ ndS n ring (i : Int) := by rw [g6]; simp
    have := hall _ hm
    have e : otherP f (i : Int) = f.A := by
      unfold otherP
      rw [if_neg (by omega), if_pos g5]
    omega
theorem start_in {n : TNetwork} (hn : netOk n = true) {ring : List Int} (h : okS n ring (startA n ring) = true) : ∃ q, findI (fun i (_ : ByteArray) => okS n ring (i : Int)) n.Nodes = some q := by
  cases e : findI (fun i (_ : ByteArray) => okS n ring (i : Int)) n.Nodes with
  | some q => exact ⟨q, rfl⟩
  | none =>
    obtain ⟨e0, f, g1, g2, g3, g4, _⟩ := start_two hn h
    obtain ⟨a0, ab, bm, _⟩ := g4
    have hl : f.A.toNat < n.Nodes.length := by omega
    have := findI_none.1 e f.A.toNat _ (List.getElem?_eq_getElem hl)
    rw [Int.toNat_of_nonneg a0, ← g3, h] at this; cases this
theorem p_l17Good (n : TNetwork) (ring : List Int) (hn : netOk n = true) (hr : ring.length ≤ 1048576) : M_spec_l17Good n ring = some (ringP n ring).isSome := by
  obtain ⟨b1, b2, b3⟩ := netOk_bR hn
  unfold M_spec_l17Good
  rw [iter_findI (f := M_spec_l17GoodL1 n ring) n.Nodes (fun i _ => okS n ring (i : Int)) (fun i _ => (ndS n ring (i : Int)).all (fun y => decide ((i : Int) ≤ y)) && !lexB ring.reverse ring) () (fun i x hx _ => by
    have hlt := (List.getElem?_eq_some_iff.1 hx).1
    have h1 : decide ((i : Int) < n.Nodes.length) = true := by simp [hlt]
    simp only [M_spec_l17GoodL1, h1, cond_true, p_l17Walk n ring i (by omega) hr, Option.bind_some]
    rw [w64_eq (by omega) (by omega)]
    rcases bt (okS n ring (i : Int)) with e | e
    · simp only [e, Bool.not_true, cond_false, if_true]
      rw [p_GoodL2 _ _ (by simp only; rw [nd_len (by omega) hr e]; exact hr)]
      simp only [Option.bind_some]
      rcases bt ((ndS n ring (i : Int)).all fun y => decide ((i : Int) ≤ y)) with e2 | e2
      · rw [e2, cond_true, p_l17Back ring hr]
        simp only [Option.bind_some]
        rw [p_l17Less ring.reverse ring (by simp) (by simpa using hr)]
        rfl
      · rw [e2]; rfl
    · simp [e]) (by simp [M_spec_l17GoodL1]) (by omega)]
  cases hf : findI (fun i (_ : ByteArray) => okS n ring (i : Int)) n.Nodes with
  | none =>
    have : ringP n ring = none := by
      cases hp : ringP n ring with
      | none => rfl
      | some l =>
        obtain ⟨q, hq⟩ := start_in hn (ringP_some.1 hp).1
        rw [hf] at hq; cases hq
    rw [this]; rfl
  | some q =>
    obtain ⟨i, x⟩ := q
    simp only [Option.bind_some]
    rcases first_start hn hf with ⟨e1, e2⟩ | ⟨e1, e2⟩
    · have hne := dif_rev (wkI_nodup (okS_iff.1 e2).1) (okS_iff.1 e2).2.2
      rw [e1, ← lexB_swap hne]
      rcases bt ((ndS n ring (startA n ring)).all fun y => decide (startA n ring ≤ y)) with e3 | e3
      · rcases bt (lexB ring ring.reverse) with e4 | e4
        · have : ringP n ring = some (ndS n ring (startA n ring)) := ringP_some.2 ⟨e2, rfl, by simpa using e3, e4⟩
          rw [this, e3, e4]; rfl
        · have : ringP n ring = none := by
            cases hp : ringP n ring with
            | none => rfl
            | some l => have := (ringP_some.1 hp).2.2.2; rw [e4] at this; cases this
          rw [this, e3, e4]; rfl
      · have : ringP n ring = none := by
          cases hp : ringP n ring with
          | none => rfl
          | some l =>
            obtain ⟨_, h2, h3, _⟩ := ringP_some.1 hp
            subst h2
            have : ((ndS n ring (startA n ring)).all fun y => decide (startA n ring ≤ y)) = true := by simpa using h3
            rw [e3] at this; cases this
        rw [this, e3]; rfl
    · have : ringP n ring = none := by
        cases hp : ringP n ring with
        | none => rfl
        | some l => have := (ringP_some.1 hp).1; rw [e1] at this; cases this
      rw [this]
      have : ((ndS n ring (i : Int)).all fun y => decide ((i : Int) ≤ y)) = false := by
        rw [Bool.eq_false_iff]
        intro h
        exact e2 (by simpa using h)
      rw [this]; rfl
end Vs

namespace Vs
open Go
theorem p_followed (n : TNetwork) (v : Int) (ring : List Int) (hF : n.Fibers.length ≤ 1048576) (hr : ring.length ≤ 1048576) : M_impl_followed n v ring = some (match wkI n ring 0 ring (v, []) with | .inl q => (q.2, q.1, true) | .inr _ => ([], 0, false)) := by
  unfold M_impl_followed
  rw [p_followL n ring v hF hr]
  cases h : wkI n ring 0 ring (v, []) with
  | inl q => rfl
  | inr x => rw [wkI_bad n ring ring 0 _ x h]; rfl
theorem walkL_min : ∀ (xs : List Int) (i : Nat) (m : Int), ∃ r, walkL (fun _ y (m : Int) => (.inl (if y < m then y else m) : Int ⊕ Int)) (fun m => m) i xs m = r ∧ (r = m ∨ r ∈ xs) ∧ r ≤ m ∧ ∀ x ∈ xs, r ≤ x
  | [], i, m => ⟨m, by simp [walkL], .inl rfl, Int.le_refl _, by simp⟩
  | y :: xs, i, m => by
    obtain ⟨r, h1, h2, h3, h4⟩ := walkL_min xs (i + 1) (if y < m then y else m)
    refine ⟨r, by simp only [walkL]; exact h1, ?_, ?_, ?_⟩
    · rcases h2 with h2 | h2
      · by_cases e : y < m
        · rw [if_pos e] at h2; right; rw [h2]; simp
        · rw [if_neg e] at h2; exact .inl h2
      · exact .inr (List.mem_cons_of_mem _ h2)
    · split at h3 <;> omega
    · intro x hx
      rcases List.mem_cons.1 hx with rfl | hx
      · split at h3 <;> omega
      · exact h4 x hx
theorem p_MinI (xs : List Int) (h0 : 0 < xs.length) (hl : xs.length ≤ 1048576) : ∃ m, M_slices_Min_Lint_int xs = some m ∧ m ∈ xs ∧ ∀ x ∈ xs, m ≤ x := by
  cases xs with
  | nil => simp at h0
  | cons x t =>
    simp only [List.length_cons] at hl
    have := iter_list (f := M_slices_Min_Lint_intL1 (x :: t)) t (fun i (m : Int) => (m, ((i + 1 : Nat) : Int))) (fun _ y (m : Int) => .inl (if y < m then y else m)) (fun m => m) (fun _ _ => True) (fun i m y hy _ => by
      have hlt := (List.getElem?_eq_some_iff.1 hy).1
      have h1 : decide (((i + 1 : Nat) : Int) < ((x :: t).length : Int)) = true := by simp; omega
      refine .inl ⟨_, rfl, trivial, ?_⟩
      have hy' : (x :: t)[i + 1]? = some y := by simpa using hy
      simp only [M_slices_Min_Lint_intL1, h1, cond_true, geti_nat, hy', Option.bind_some]
      rw [w64_eq (by omega) (by omega)]
      rfl) (fun m _ => by simp [M_slices_Min_Lint_intL1]) x trivial (by omega)
    obtain ⟨r, h1, h2, h3, h4⟩ := walkL_min t 0 x
    refine ⟨r, ?_, ?_, ?_⟩
    · unfold M_slices_Min_Lint_int
      have e2 : decide (((x :: t).length : Int) < 1) = false := by simp; omega
      rw [e2, cond_false]
      have e3 : geti (x :: t) 0 = some x := geti_nat (x :: t) 0
      rw [e3]
      simp only [Option.bind_some]
      have e : ((0 + 1 : Nat) : Int) = 1 := rfl
      simp only [e] at this
      rw [this, h1]; rfl
    · rcases h2 with rfl | h2
      · simp
      · exact List.mem_cons_of_mem _ h2
    · intro y hy
      rcases List.mem_cons.1 hy with rfl | hy
      · exact h3
      · exact h4 y hy
theorem p_CloneI (xs : List Int) (hl : xs.length ≤ 1048576) : M_slices_Clone_Lint_int xs = some xs := by
  unfold M_slices_Clone_Lint_int
  rw [grd_t (by omega)]
  cases xs with
  | nil => rfl
  | cons x t => rfl
theorem iter_swap {α : Type} {f : Int × Int × List α → Option ((Int × Int × List α) ⊕ (List α))} (xs : List α)
    (h1 : ∀ (i j : Nat) (l : List α) x y, i < j → l.length = xs.length → l[i]? = some x → l[j]? = some y → f ((i : Int), (j : Int), l) = some (.inl (((i + 1 : Nat) : Int), (j : Int) - 1, (l.set i y).set j x)))
    (h2 : ∀ (i j : Int) (l : List α), j ≤ i → f (i, j, l) = some (.inr l)) (hl : xs.length < 18446744073709551615) : iter f N0 (0, (xs.length : Int) - 1, xs) = some xs.reverse := by
  obtain ⟨b, hb, h3⟩ := iter_inv (f := f) (fun s => ∃ i : Nat, s.1 = i ∧ s.2.1 = (xs.length : Int) - 1 - i ∧ 2 * i ≤ xs.length + 1 ∧ s.2.2.length = xs.length ∧ ∀ k : Nat, k < xs.length → s.2.2[k]? = if k < i ∨ xs.length - 1 - k < i then xs[xs.length - 1 - k]? else xs[k]?)
    (fun s => xs.length - s.1.toNat) (fun b => b = xs.reverse) (fun s hI => by
    obtain ⟨i', j', l⟩ := s
    obtain ⟨i, e1, e2, e3, e4, e5⟩ := hI
    simp only at e1 e2 e4 e5
    subst e1; subst e2
    by_cases h : (i : Int) < (xs.length : Int) - 1 - i
    · left
      have hi : i < xs.length := by omega
      have hj : xs.length - 1 - i < xs.length := by omega
      have g1 := e5 i hi
      rw [if_neg (by omega), List.getElem?_eq_getElem hi] at g1
      have g2 := e5 (xs.length - 1 - i) hj
      rw [if_neg (by omega), List.getElem?_eq_getElem hj] at g2
      have hf := h1 i (xs.length - 1 - i) l _ _ (by omega) e4 g1 g2
      rw [show ((xs.length - 1 - i : Nat) : Int) = (xs.length : Int) - 1 - i by omega] at hf
      refine ⟨_, hf, ⟨i + 1, rfl, by simp only; omega, by omega, by simp [e4], fun k hk => ?_⟩, by simp only [Int.toNat_natCast]; omega⟩
      simp only
      rw [List.getElem?_set]
      by_cases c1 : xs.length - 1 - i = k
      · rw [if_pos c1, if_pos (by simp; omega), if_pos (by omega), show xs.length - 1 - k = i by omega, List.getElem?_eq_getElem hi]
      · rw [if_neg c1, List.getElem?_set]
        by_cases c2 : i = k
        · rw [if_pos c2, if_pos (by omega), if_pos (by omega), ← c2, List.getElem?_eq_getElem hj]
        · rw [if_neg c2, e5 k hk]
          by_cases c3 : k < i ∨ xs.length - 1 - k < i
          · rw [if_pos c3, if_pos (by omega)]
          · rw [if_neg c3, if_neg (by omega)]
    · right
      refine ⟨_, h2 _ _ l (by omega), ?_⟩
      apply List.ext_getElem?
      intro k
      by_cases hk : k < xs.length
      · rw [e5 k hk, List.getElem?_reverse hk]
        split
        · rfl
        · congr 1; omega
      · rw [List.getElem?_eq_none (by omega), List.getElem?_eq_none (by simp; omega)]) N0 (0, (xs.length : Int) - 1, xs) ⟨0, rfl, by simp, by omega, rfl, fun k hk => by rw [if_neg (by omega)]⟩ (N0_lt (by simp; omega))
  rw [hb, h3]
theorem p_ReverseI (xs : List Int) (hl : xs.length ≤ 1048576) : M_slices_Reverse_Lint_intM1 xs = some xs.reverse := by
  unfold M_slices_Reverse_Lint_intM1
  rw [w64_eq (by omega) (by omega), iter_swap (f := M_slices_Reverse_Lint_intM1L1) xs (fun i j l x y hij hll hx hy => by
    have hi := (List.getElem?_eq_some_iff.1 hx).1
    have hj := (List.getElem?_eq_some_iff.1 hy).1
    have e1 : decide ((i : Int) < (j : Int)) = true := decide_eq_true (by omega)
    have e3 : (l.set i y)[j]? = some y := by rw [List.getElem?_set, if_neg (by omega)]; exact hy
    simp only [M_slices_Reverse_Lint_intM1L1, e1, cond_true, Int.toNat_natCast, hx, hy, Option.bind_some, bnd, e3]
    rw [grd_t (by omega), grd_t (by omega), w64_eq (by omega) (by omega), w64_eq (by omega) (by omega)]
    rfl) (fun i j l h => by
    have e1 : decide (i < j) = false := decide_eq_false (by omega)
    simp only [M_slices_Reverse_Lint_intM1L1, e1, cond_false]) (by omega)]
  rfl
theorem p_aroundL1 (r : List Int × Int × Bool) (hl : r.1.length ≤ 1048576) : iter (M_impl_aroundL1 r) N0 0 = some (if r.1.Nodup then .inl () else .inr ([], false)) := by
  rw [iter_anyI (f := M_impl_aroundL1 r) r.1 (fun i v => decide (v ∈ r.1.take i)) (.inr ([], false)) (.inl ()) (fun i v hv _ => by
    have hlt := (List.getElem?_eq_some_iff.1 hv).1
    have h1 : decide ((i : Int) < r.1.length) = true := by simp [hlt]
    simp only [M_impl_aroundL1, h1, cond_true, Int.toNat_natCast, hv]
    rw [grd_t (by omega), grd_t ⟨trivial, by omega, trivial, by omega⟩]
    simp only [Option.bind_some, bnd, subT_drop, List.drop_zero, p_ContI (r.1.take i) v (by simp; omega)]
    rw [w64_eq (by omega) (by omega)]
    cases decide (v ∈ r.1.take i) <;> rfl) (by simp [M_impl_aroundL1]) (by omega)]
  by_cases h : r.1.Nodup
  · rw [if_pos h]
    have : anyI (fun i v => decide (v ∈ r.1.take i)) r.1 = false := anyI_false.2 fun i v hv => by simpa using nodup_take h hv
    rw [this]; rfl
  · rw [if_neg h]
    have : anyI (fun i v => decide (v ∈ r.1.take i)) r.1 = true := by
      cases e : anyI (fun i v => decide (v ∈ r.1.take i)) r.1 with
      | true => rfl
      | false =>
        exfalso
        exact h (nodup_of fun i v hv => by simpa using anyI_false.1 e i v hv)
    rw [this]; rfl
theorem ringP_none {n : TNetwork} {ring : List Int} (h : ∀ q, wkI n ring 0 ring (startA n ring, []) = .inl q → q.1 = startA n ring → q.2.Nodup → (∀ x ∈ q.2, startA n ring ≤ x) → lexB ring ring.reverse = true → 2 ≤ ring.length → False) : ringP n ring = none := by
  cases hp : ringP n ring with
  | none => rfl
  | some l =>
    obtain ⟨h1, h2, h3, h4⟩ := ringP_some.1 hp
    obtain ⟨g1, g2, g3⟩ := okS_iff.1 h1
    rw [h2] at g1 g2
    exact (h _ g1 rfl g2 h3 h4 g3).elim
theorem p_around (n : TNetwork) (ring : List Int) (hF : n.Fibers.length ≤ 1048576) (hr : ring.length ≤ 1048576) : ∃ l, M_impl_around n ring = some (l, (ringP n ring).isSome) ∧ ∀ r, ringP n ring = some r → l = r := by
  unfold M_impl_around
  match ring, hr with
  | [], _ => exact ⟨[], rfl, fun r h => by simp [ringP] at h⟩
  | [e0], _ => exact ⟨[], rfl, fun r h => by simp [ringP] at h⟩
  | e0 :: e1 :: t, hr =>
    have hlen : 2 ≤ (e0 :: e1 :: t).length := by simp
    generalize hR : e0 :: e1 :: t = ring at *
    have hg : geti ring 0 = some e0 := by rw [← hR]; exact geti_nat (e0 :: e1 :: t) 0
    have h2 : decide ((ring.length : Int) < 2) = false := decide_eq_false (by omega)
    simp only [h2, cond_false, hg, Option.bind_some, p_within]
    rw [w64_eq (by omega) (by omega)]
    rcases bt (wi e0 0 ((n.Fibers.length : Int) - 1)) with hw | hw
    · obtain ⟨f, g1, g2⟩ := geti_fib hw
      have hs : startA n ring = f.A := by
        unfold startA
        rw [← hR]
        simp only [List.getElem?_cons_zero, g2]
      simp only [hw, Bool.not_true, cond_false, g1, Option.bind_some, p_followed n f.A ring hF hr]
      rw [← hs]
      cases hwk : wkI n ring 0 ring (startA n ring, []) with
      | inr x =>
        have : ringP n ring = none := ringP_none fun q hq => by rw [hwk] at hq; cases hq
        rw [this]
        exact ⟨[], rfl, fun r h => by cases h⟩
      | inl q =>
        simp only [Bool.not_true, cond_false]
        have hql : q.2.length = ring.length ∧ startA n ring ∈ q.2 := by
          obtain ⟨_, _, s, hs2⟩ := wkI_two hR.symm hwk
          refine ⟨?_, by rw [hs2]; simp⟩
          have key : ∀ (ys : List Int) (i : Nat) (p q : Int × List Int), wkI n ring i ys p = .inl q → q.2.length = p.2.length + ys.length := by
            intro ys
            induction ys with
            | nil => intro i p q h; unfold wkI walkL at h; cases h; simp
            | cons e ys ih =>
              intro i p q h
              rw [wkI_cons] at h
              unfold stI at h
              by_cases h1 : badE n ring i e = true
              · rw [if_pos h1] at h; cases h
              · rw [if_neg h1] at h
                by_cases h2 : othI n e p.1 < 0
                · rw [if_pos h2] at h; cases h
                · rw [if_neg h2] at h
                  have := ih (i + 1) _ q h
                  simp only [List.length_append, List.length_cons, List.length_nil] at this ⊢
                  omega
          simpa using key ring 0 _ q hwk
        by_cases hq1 : q.1 = startA n ring
        · have e1 : (q.1 != startA n ring) = false := by rw [hq1]; simp
          obtain ⟨m, m1, m2, m3⟩ := p_MinI q.2 (by omega) (by omega)
          simp only [e1, cond_false, m1, Option.bind_some]
          by_cases hm : m = startA n ring
          · have e2 : (m != startA n ring) = false := by rw [hm]; simp
            simp only [e2, cond_false, p_aroundL1 (q.2, q.1, true) (by simp only; omega), Option.bind_some]
            by_cases hnd : q.2.Nodup
            · rw [if_pos hnd]
              simp only [p_CloneI ring hr, p_ReverseI ring hr, Option.bind_some, bnd]
              have e3 : subT ring.reverse 0 ring.length = ring.reverse := by
                have := subT_all ring.reverse
                rwa [List.length_reverse] at this
              obtain ⟨c, c1, c2⟩ := p_CompareI ring ring.reverse (by simp) hr
              simp only [e3, c1, c2, Option.bind_some]
              refine ⟨q.2, ?_, ?_⟩
              · congr 2
                cases hx : lexB ring ring.reverse with
                | true =>
                  have : ringP n ring = some q.2 := by
                    unfold ringP
                    rw [if_pos hlen, hwk]
                    simp only
                    rw [if_pos ⟨hq1, hnd, fun x hx => by rw [← hm]; exact m3 x hx, hx⟩]
                  rw [this]; rfl
                | false =>
                  have : ringP n ring = none := ringP_none fun _ _ _ _ _ hx' => by rw [hx] at hx'; cases hx'
                  rw [this]; rfl
              · intro r hrp
                obtain ⟨h1, h2, _⟩ := ringP_some.1 hrp
                obtain ⟨g1, _⟩ := okS_iff.1 h1
                rw [hwk] at g1
                have := congrArg Prod.snd (Sum.inl.inj g1)
                rw [← h2]; exact this
            · rw [if_neg hnd]
              have : ringP n ring = none := ringP_none fun q' hq' _ hnd' => by rw [hwk] at hq'; cases hq'; exact (hnd hnd').elim
              rw [this]
              exact ⟨[], rfl, fun r h => by cases h⟩
          · have e2 : (m != startA n ring) = true := bne_iff_ne.2 hm
            have : ringP n ring = none := ringP_none fun q' hq' _ _ hall => by
              rw [hwk] at hq'; cases hq'
              have h5 := hall m m2
              have h6 := m3 _ hql.2
              omega
            rw [this]
            simp only [e2, cond_true]
            exact ⟨[], rfl, fun r h => by cases h⟩
        · have e1 : (q.1 != startA n ring) = true := bne_iff_ne.2 hq1
          have : ringP n ring = none := ringP_none fun q' hq' hq1' => by rw [hwk] at hq'; cases hq'; exact (hq1 hq1').elim
          rw [this]
          simp only [e1, cond_true, Option.bind_some]
          exact ⟨[], rfl, fun r h => by cases h⟩
    · have : ringP n ring = none := ringP_none fun q hq _ _ _ _ _ => by
        have := (wkI_two hR.symm hq).1
        rw [hw] at this; cases this
      rw [this]
      simp only [hw, Bool.not_false, cond_true, Option.bind_some]
      exact ⟨[], rfl, fun r h => by cases h⟩
theorem p_impl_RingNodes0 (n : TNetwork) (ring : List Int) (hz : z_Network n ≤ 1048576) (hr : ring.length ≤ 1048576) : M_impl_RingNodes n ring = some (if netOk n then (match ringP n ring with | some l => (l, true) | none => ([], false)) else ([], false)) := by
  obtain ⟨h1, h2, h3⟩ := z_net hz
  unfold M_impl_RingNodes
  simp only [p_IsValidNetwork n hz, Option.bind_some]
  rcases bt (netOk n) with hn | hn
  · obtain ⟨l, g1, g2⟩ := p_around n ring h2 hr
    rw [hn, g1]
    cases hp : ringP n ring with
    | none => rfl
    | some r => rw [g2 r hp]; rfl
  · rw [hn]; rfl
def isRingB (n : TNetwork) (ring : List Int) : Bool := netOk n && (ringP n ring).isSome
theorem p_impl_IsRing (n : TNetwork) (ring : List Int) (hz : z_Network n ≤ 1048576) (hr : ring.length ≤ 1048576) : M_impl_IsRing n ring = some (isRingB n ring) := by
  unfold M_impl_IsRing isRingB
  rw [p_impl_RingNodes0 n ring hz hr]
  cases netOk n with
  | false => rfl
  | true => cases ringP n ring <;> rfl
theorem p_spec_IsRing (n : TNetwork) (ring : List Int) (hz : z_Network n ≤ 1048576) (hr : ring.length ≤ 1048576) : M_spec_IsRing n ring = some (isRingB n ring) := by
  unfold M_spec_IsRing isRingB
  simp only [p_l2Good n hz, Option.bind_some]
  rcases bt (netOk n) with hn | hn
  · rw [hn, cond_true, p_l17Good n ring hn hr]; rfl
  · rw [hn]; rfl
end Vs

namespace Vs
open Go
theorem p_l17Nodes (n : TNetwork) (ring l : List Int) (hn : netOk n = true) (hr : ring.length ≤ 1048576) (hp : ringP n ring = some l) : M_spec_l17Nodes n ring = some l := by
  obtain ⟨b1, b2, b3⟩ := netOk_bR hn
  obtain ⟨h1, h2, _⟩ := ringP_some.1 hp
  unfold M_spec_l17Nodes
  rw [iter_findI (f := M_spec_l17NodesL1 n ring) n.Nodes (fun i _ => okS n ring (i : Int)) (fun i _ => ndS n ring (i : Int)) () (fun i x hx _ => by
    have hlt := (List.getElem?_eq_some_iff.1 hx).1
    have h1 : decide ((i : Int) < n.Nodes.length) = true := by simp [hlt]
    simp only [M_spec_l17NodesL1, h1, cond_true, p_l17Walk n ring i (by omega) hr, Option.bind_some]
    rw [w64_eq (by omega) (by omega)]
    cases okS n ring (i : Int) <;> rfl) (by simp [M_spec_l17NodesL1]) (by omega)]
  cases hf : findI (fun i (_ : ByteArray) => okS n ring (i : Int)) n.Nodes with
  | none => obtain ⟨q, hq⟩ := start_in hn h1; rw [hf] at hq; cases hq
  | some q =>
    obtain ⟨i, x⟩ := q
    rcases first_start hn hf with ⟨e1, e2⟩ | ⟨e1, e2⟩
    · simp only [Option.bind_some, e1, h2]
    · rw [h1] at e1; cases e1
def rnP (n : TNetwork) (ring : List Int) : List Int × Bool := if netOk n then (match ringP n ring with | some l => (l, true) | none => ([], false)) else ([], false)
theorem p_impl_RingNodes (n : TNetwork) (ring : List Int) (hz : z_Network n ≤ 1048576) (hr : ring.length ≤ 1048576) : M_impl_RingNodes n ring = some (rnP n ring) := p_impl_RingNodes0 n ring hz hr
theorem zr_RingNodes (n : TNetwork) (ring : List Int) (hz : z_Network n ≤ 1048576) (hr : ring.length ≤ 1048576) : z_IntS (rnP n ring).1 ≤ 1048576 := by
  show (rnP n ring).1.length ≤ 1048576
  obtain ⟨h1, h2, h3⟩ := z_net hz
  unfold rnP
  split
  · cases hp : ringP n ring with
    | none => simp
    | some l =>
      obtain ⟨h1, h2, _⟩ := ringP_some.1 hp
      simp only
      rw [← h2, nd_len (by omega) hr h1]; exact hr
  · simp
end Vs

namespace Vs
open Go
/-! ### slices.Sort of at most twelve numbers -/
def gz (l : List Int) (p : Nat) : Int := (l[p]?).getD 0
theorem gz_at {l : List Int} {p : Nat} (h : p < l.length) : l[p]? = some (gz l p) := by
  unfold gz; rw [List.getElem?_eq_getElem h]; rfl
theorem gz_set {l : List Int} {p q : Nat} {x : Int} (h : p < l.length) : gz (l.set p x) q = if q = p then x else gz l q := by
  unfold gz
  rw [List.getElem?_set]
  by_cases e : p = q
  · rw [if_pos e, if_pos h, if_pos e.symm]; rfl
  · rw [if_neg e, if_neg (Ne.symm e)]
theorem p_Less (x y : Int) : M_cmp_Less_int x y = some (decide (x < y)) := by
  unfold M_cmp_Less_int M_cmp_isNaN_int; simp
theorem perm_swap {l : List Int} {i j : Nat} (hi : i < l.length) (hj : j < l.length) : ((l.set i (gz l j)).set j (gz l i)).Perm l := by
  by_cases e : i = j
  · subst e
    have : (l.set i (gz l i)).set i (gz l i) = l := by
      apply List.ext_getElem?
      intro k
      rw [List.getElem?_set, List.getElem?_set]
      by_cases h : i = k
      · subst h; simp [hi]; unfold gz; rw [List.getElem?_eq_getElem hi]; rfl
      · simp [h]
    rw [this]
  · have g1 : gz l j = l[j] := by unfold gz; rw [List.getElem?_eq_getElem hj]; rfl
    have g2 : gz l i = l[i] := by unfold gz; rw [List.getElem?_eq_getElem hi]; rfl
    rw [g1, g2]
    exact List.set_set_perm hi hj
def SrtI (i j : Nat) (l : List Int) : Prop := (∀ p q, p < q → q ≤ i → p ≠ j → q ≠ j → gz l p ≤ gz l q) ∧ ∀ q, j < q → q ≤ i → gz l j ≤ gz l q
def SrtB (n : Nat) (l : List Int) : Prop := ∀ p q, p < q → q < n → gz l p ≤ gz l q
theorem p_sortL2 (n i : Nat) (l0 : List Int) (hl : l0.length = n) (hn : n ≤ 1048576) (hi : i < n) (hs : SrtB i l0) :
    ∃ l, iter (M_slices_insertionSortOrdered_intM2L2 0 n 0) N0 ((i : Int), l0) = some l ∧ l.Perm l0 ∧ SrtB (i + 1) l := by
  refine iter_inv (f := M_slices_insertionSortOrdered_intM2L2 0 n 0) (fun s => ∃ j : Nat, s.1 = j ∧ j ≤ i ∧ s.2.length = n ∧ s.2.Perm l0 ∧ SrtI i j s.2) (fun s => s.1.toNat) (fun l => l.Perm l0 ∧ SrtB (i + 1) l) (fun s hI => ?_) N0 ((i : Int), l0)
    ⟨i, rfl, Nat.le_refl _, hl, List.Perm.refl _, fun p q h1 h2 h3 h4 => hs p q h1 (by omega), fun q h1 h2 => by omega⟩ (N0_lt (by simp; omega))
  obtain ⟨j', l⟩ := s
  obtain ⟨j, rfl, hj, hll, hp, hA, hB⟩ := hI
  simp only at hll hp hA hB
  by_cases h0 : 0 < j
  · have e1 : decide ((0 : Int) < (j : Int)) = true := decide_eq_true (by omega)
    have ew : IntKind.wrap .i64 ((j : Int) - 1) = ((j - 1 : Nat) : Int) := by rw [w64_eq (by omega) (by omega)]; omega
    have g1 : l[0 + j]? = some (gz l j) := by rw [Nat.zero_add]; exact gz_at (by omega)
    have g2 : l[0 + (j - 1)]? = some (gz l (j - 1)) := by rw [Nat.zero_add]; exact gz_at (by omega)
    by_cases hlt : gz l j < gz l (j - 1)
    · left
      have e2 : decide (gz l j < gz l (j - 1)) = true := decide_eq_true hlt
      have g3 : (l.set (0 + j) (gz l (j - 1)))[0 + (j - 1)]? = some (gz l (j - 1)) := by
        rw [List.getElem?_set, if_neg (by omega)]; exact g2
      refine ⟨(((j - 1 : Nat) : Int), (l.set j (gz l (j - 1))).set (j - 1) (gz l j)), ?_, ⟨j - 1, rfl, by omega, by simp [hll], ?_, ?_, ?_⟩, ?_⟩
      · simp only [M_slices_insertionSortOrdered_intM2L2, e1, cond_true, Int.toNat_natCast, g1, ew, g2, p_Less, e2, Option.bind_some, bnd, g3]
        rw [grd_t (by omega), grd_t (by omega)]
        simp only [Option.bind_some, p_Less, e2, cond_true, g3, Nat.zero_add]
      · exact (perm_swap (by omega) (by omega)).trans hp
      · intro p q h1 h2 h3 h4
        simp only at *
        rw [gz_set (by simp; omega), gz_set (by omega), gz_set (by simp; omega), gz_set (by omega), if_neg h3, if_neg h4]
        by_cases c1 : p = j
        · rw [if_pos c1, if_neg (by omega)]; exact hA (j - 1) q (by omega) h2 (by omega) (by omega)
        · rw [if_neg c1]
          by_cases c2 : q = j
          · rw [if_pos c2]; exact hA p (j - 1) (by omega) (by omega) c1 (by omega)
          · rw [if_neg c2]; exact hA p q h1 h2 c1 c2
      · intro q h1 h2
        simp only at *
        rw [gz_set (by simp; omega), if_pos rfl, gz_set (by simp; omega), if_neg (by omega), gz_set (by omega)]
        by_cases c2 : q = j
        · rw [if_pos c2]; omega
        · rw [if_neg c2]; exact hB q (by omega) h2
      · simp only [Int.toNat_natCast]; omega
    · right
      have e2 : decide (gz l j < gz l (j - 1)) = false := decide_eq_false hlt
      refine ⟨l, ?_, hp, ?_⟩
      · simp only [M_slices_insertionSortOrdered_intM2L2, e1, cond_true, Int.toNat_natCast, g1, ew, g2, Option.bind_some]
        rw [grd_t (by omega), grd_t (by omega)]
        simp only [Option.bind_some, p_Less, e2, cond_false]
      · intro p q h1 h2
        by_cases c1 : p = j
        · rw [c1]; exact hB q (by omega) (by omega)
        · by_cases c2 : q = j
          · rw [c2]
            by_cases c3 : p = j - 1
            · rw [c3]; omega
            · have := hA p (j - 1) (by omega) (by omega) c1 (by omega); omega
          · exact hA p q h1 (by omega) c1 c2
  · right
    have e1 : decide ((0 : Int) < (j : Int)) = false := decide_eq_false (by omega)
    refine ⟨l, by simp only [M_slices_insertionSortOrdered_intM2L2, e1, cond_false, Option.bind_some], hp, fun p q h1 h2 => ?_⟩
    by_cases c1 : p = j
    · rw [c1]; exact hB q (by omega) (by omega)
    · exact hA p q h1 (by omega) c1 (by omega)
theorem p_sortI (n : Nat) (xs : List Int) (hl : xs.length = n) (hn : n ≤ 1048576) : ∃ l, M_slices_insertionSortOrdered_intM2 0 n 0 (n : Int) xs = some l ∧ l.Perm xs ∧ SrtB n l := by
  unfold M_slices_insertionSortOrdered_intM2
  obtain ⟨l, h1, h2, h3⟩ := iter_inv (f := M_slices_insertionSortOrdered_intM2L1 0 n 0 (n : Int)) (fun s => ∃ i : Nat, s.1 = i ∧ 1 ≤ i ∧ i ≤ n + 1 ∧ s.2.length = n ∧ s.2.Perm xs ∧ SrtB i s.2) (fun s => n + 1 - s.1.toNat) (fun l => l.Perm xs ∧ SrtB n l) (fun s hI => by
    obtain ⟨i', l⟩ := s
    obtain ⟨i, rfl, h0, hi, hll, hp, hs⟩ := hI
    simp only at hll hp hs
    by_cases h : i < n
    · left
      have e1 : decide ((i : Int) < (n : Int)) = true := decide_eq_true (by omega)
      obtain ⟨l', g1, g2, g3⟩ := p_sortL2 n i l hll hn h hs
      refine ⟨(((i + 1 : Nat) : Int), l'), ?_, ⟨i + 1, rfl, by omega, by omega, by rw [g2.length_eq]; exact hll, g2.trans hp, g3⟩, by simp only [Int.toNat_natCast]; omega⟩
      simp only [M_slices_insertionSortOrdered_intM2L1, e1, cond_true, g1, Option.bind_some]
      rw [w64_eq (by omega) (by omega)]; rfl
    · right
      have e1 : decide ((i : Int) < (n : Int)) = false := decide_eq_false (by omega)
      exact ⟨l, by simp only [M_slices_insertionSortOrdered_intM2L1, e1, cond_false], hp, fun p q h1 h2 => hs p q h1 (by omega)⟩) N0 (((1 : Nat) : Int), xs) ⟨1, rfl, by omega, by omega, hl, List.Perm.refl _, fun p q h1 h2 => by omega⟩ (N0_lt (by simp; omega))
  refine ⟨l, ?_, h2, h3⟩
  have e : IntKind.wrap .i64 ((0 : Int) + 1) = ((1 : Nat) : Int) := by rw [w64_eq (by omega) (by omega)]; rfl
  rw [e, h1]; rfl
theorem bitsLen12 : ∀ n : Fin 13, (M_math_bits_Len (IntKind.wrap .u64 (n.val : Int))).isSome = true := by decide +kernel
theorem p_SortI (xs : List Int) (h : xs.length ≤ 12) : ∃ l, M_slices_Sort_Lint_intM1 xs = some l ∧ l.Perm xs ∧ l.Pairwise (· ≤ ·) := by
  obtain ⟨l, h1, h2, h3⟩ := p_sortI xs.length xs rfl (by omega)
  refine ⟨l, ?_, h2, ?_⟩
  · have hb := bitsLen12 ⟨xs.length, by omega⟩
    simp only at hb
    unfold M_slices_Sort_Lint_intM1
    cases hx : M_math_bits_Len (IntKind.wrap .u64 (xs.length : Int)) with
    | none => rw [hx] at hb; cases hb
    | some r =>
      simp only [Option.bind_some]
      unfold M_slices_pdqsortOrdered_intM1
      have hN : N0 = (N0 - 1) + 1 := by unfold N0; omega
      rw [hN, iter]
      have e1 : decide (IntKind.wrap .i64 ((xs.length : Int) - 0) ≤ 12) = true := by rw [w64_eq (by omega) (by omega)]; exact decide_eq_true (by omega)
      simp only [M_slices_pdqsortOrdered_intM1L1, e1, cond_true, h1, Option.bind_some]
  · rw [List.pairwise_iff_getElem]
    intro i j hi hj hij
    have := h3 i j hij (by rw [← h2.length_eq]; exact hj)
    unfold gz at this
    rw [List.getElem?_eq_getElem hi, List.getElem?_eq_getElem hj] at this
    exact this
theorem rise_eq : ∀ (xs ys : List Int), xs.Pairwise (· < ·) → ys.Pairwise (· < ·) → (∀ x, x ∈ xs ↔ x ∈ ys) → xs = ys
  | [], [], _, _, _ => rfl
  | [], y :: ys, _, _, h => by have := (h y).2 (by simp); cases this
  | x :: xs, [], _, _, h => by have := (h x).1 (by simp); cases this
  | x :: xs, y :: ys, hx, hy, h => by
    rw [List.pairwise_cons] at hx hy
    have e : x = y := by
      have h1 := (h x).1 (by simp)
      have h2 := (h y).2 (by simp)
      rcases List.mem_cons.1 h1 with h1 | h1
      · exact h1
      · rcases List.mem_cons.1 h2 with h2 | h2
        · exact h2.symm
        · have := hx.1 y h2; have := hy.1 x h1; omega
    subst e
    congr 1
    refine rise_eq xs ys hx.2 hy.2 fun z => ?_
    have := h z
    constructor
    · intro hz
      rcases List.mem_cons.1 (this.1 (List.mem_cons_of_mem _ hz)) with e | e
      · subst e; have := hx.1 z hz; omega
      · exact e
    · intro hz
      rcases List.mem_cons.1 (this.2 (List.mem_cons_of_mem _ hz)) with e | e
      · subst e; have := hy.1 z hz; omega
      · exact e
theorem sorted_lt {l : List Int} (h : l.Pairwise (· ≤ ·)) (hn : l.Nodup) : l.Pairwise (· < ·) := by
  rw [List.pairwise_iff_getElem] at h ⊢
  rw [List.nodup_iff_pairwise_ne, List.pairwise_iff_getElem] at hn
  intro i j hi hj hij
  have a := h i j hi hj hij
  have b := hn i j hi hj hij
  omega
end Vs

namespace Vs
open Go
/-! ### what a ring protects -/
def filI {α : Type} (p : Nat → α → Bool) : Nat → List α → List Int
  | _, [] => []
  | i, x :: xs => if p i x then (i : Int) :: filI p (i + 1) xs else filI p (i + 1) xs
theorem filI_cons {α : Type} (p : Nat → α → Bool) (i : Nat) (x : α) (xs : List α) : filI p i (x :: xs) = if p i x then (i : Int) :: filI p (i + 1) xs else filI p (i + 1) xs := rfl
theorem filI_len {α : Type} (p : Nat → α → Bool) : ∀ (xs : List α) (i : Nat), (filI p i xs).length ≤ xs.length
  | [], i => by simp [filI]
  | x :: xs, i => by
    have := filI_len p xs (i + 1)
    rw [filI_cons]; split <;> simp <;> omega
theorem filI_mem {α : Type} (p : Nat → α → Bool) : ∀ (xs : List α) (i : Nat) (y : Int), y ∈ filI p i xs ↔ ∃ j x, xs[j]? = some x ∧ p (i + j) x = true ∧ y = ((i + j : Nat) : Int)
  | [], i, y => by simp [filI]
  | x :: xs, i, y => by
    have ih := filI_mem p xs (i + 1) y
    rw [filI_cons]
    constructor
    · intro h
      by_cases e : p i x = true
      · rw [if_pos e] at h
        rcases List.mem_cons.1 h with h | h
        · exact ⟨0, x, rfl, by simpa using e, by simpa using h⟩
        · obtain ⟨j, z, h1, h2, h3⟩ := ih.1 h
          exact ⟨j + 1, z, by simpa using h1, by rw [show i + (j + 1) = i + 1 + j by omega]; exact h2, by rw [h3]; congr 1; omega⟩
      · rw [if_neg e] at h
        obtain ⟨j, z, h1, h2, h3⟩ := ih.1 h
        exact ⟨j + 1, z, by simpa using h1, by rw [show i + (j + 1) = i + 1 + j by omega]; exact h2, by rw [h3]; congr 1; omega⟩
    · rintro ⟨j, z, h1, h2, h3⟩
      cases j with
      | zero =>
        simp at h1; subst h1
        rw [if_pos (by simpa using h2)]
        rw [h3]; simp
      | succ j =>
        have : y ∈ filI p (i + 1) xs := ih.2 ⟨j, z, by simpa using h1, by rw [show i + 1 + j = i + (j + 1) by omega]; exact h2, by rw [h3]; congr 1; omega⟩
        split
        · exact List.mem_cons_of_mem _ this
        · exact this
theorem filI_lt {α : Type} (p : Nat → α → Bool) : ∀ (xs : List α) (i : Nat), (filI p i xs).Pairwise (· < ·)
  | [], i => by simp [filI]
  | x :: xs, i => by
    rw [filI_cons]
    split
    · rw [List.pairwise_cons]
      refine ⟨fun y hy => ?_, filI_lt p xs (i + 1)⟩
      obtain ⟨j, _, _, _, rfl⟩ := (filI_mem p xs (i + 1) y).1 hy
      omega
    · exact filI_lt p xs (i + 1)
theorem walkL_fil {α : Type} (p : Nat → α → Bool) : ∀ (xs : List α) (i : Nat) (a : List Int), walkL (fun i x (a : List Int) => (.inl (if p i x then a ++ [(i : Int)] else a) : List Int ⊕ List Int)) (fun a => a) i xs a = a ++ filI p i xs
  | [], i, a => by simp [walkL, filI]
  | x :: xs, i, a => by
    simp only [walkL]
    rw [walkL_fil p xs (i + 1), filI_cons]
    split <;> simp
theorem walkL_fil2 {α : Type} (p q : Nat → α → Bool) : ∀ (xs : List α) (i : Nat) (a : List Int × List Int), walkL (fun i x (a : List Int × List Int) => (.inl (if p i x then (a.1 ++ [(i : Int)], a.2) else if q i x then (a.1, a.2 ++ [(i : Int)]) else a) : (List Int × List Int) ⊕ (List Int × List Int))) (fun a => a) i xs a =
    (a.1 ++ filI p i xs, a.2 ++ filI (fun i x => !p i x && q i x) i xs)
  | [], i, a => by simp [walkL, filI]
  | x :: xs, i, a => by
    simp only [walkL]
    rw [walkL_fil2 p q xs (i + 1), filI_cons, filI_cons]
    by_cases h1 : p i x = true
    · simp [h1]
    · by_cases h2 : q i x = true <;> simp [h1, h2]
def ownB (ring : List Int) (i : Nat) (_ : TFiber) : Bool := decide ((i : Int) ∈ ring)
def crsB (nd : List Int) (_ : Nat) (f : TFiber) : Bool := decide (f.A ∈ nd) && decide (f.B ∈ nd)
def ownP (n : TNetwork) (ring : List Int) : List Int := filI (ownB ring) 0 n.Fibers
def crsP (n : TNetwork) (ring nd : List Int) : List Int := filI (fun i f => !ownB ring i f && crsB nd i f) 0 n.Fibers
theorem p_l17Protected (n : TNetwork) (ring l : List Int) (hn : netOk n = true) (hr : ring.length ≤ 1048576) (hl : l.length ≤ 1048576) (hp : ringP n ring = some l) : M_spec_l17Protected n ring = some (ownP n ring, crsP n ring l) := by
  obtain ⟨b1, b2, b3⟩ := netOk_bR hn
  unfold M_spec_l17Protected
  rw [p_l17Nodes n ring l hn hr hp]
  simp only [Option.bind_some]
  have := iter_list (f := M_spec_l17ProtectedL1 n ring l) n.Fibers (fun i (a : List Int × List Int) => ((i : Int), a.1, a.2)) (fun i f a => .inl (if ownB ring i f then (a.1 ++ [(i : Int)], a.2) else if crsB l i f then (a.1, a.2 ++ [(i : Int)]) else a)) (fun a => a) (fun i a => a.1.length ≤ i ∧ a.2.length ≤ i) (fun i a f hf hI => by
    have hlt := (List.getElem?_eq_some_iff.1 hf).1
    have h1 : decide ((i : Int) < n.Fibers.length) = true := by simp [hlt]
    refine .inl ⟨_, rfl, ?_, ?_⟩
    · split
      · simp only [List.length_append, List.length_cons, List.length_nil]; omega
      · split
        · simp only [List.length_append, List.length_cons, List.length_nil]; omega
        · omega
    · simp only [M_spec_l17ProtectedL1, h1, cond_true, p_l1Has ring (i : Int) hr, ← any_mem, Option.bind_some, geti_nat, hf, p_l1Has l _ hl, bnd]
      rw [w64_eq (by omega) (by omega), grd_t (by omega), grd_t (by omega)]
      unfold ownB crsB
      by_cases e1 : (i : Int) ∈ ring
      · simp [e1]
      · by_cases e2 : f.A ∈ l
        · by_cases e3 : f.B ∈ l <;> simp [e1, e2, e3]
        · simp [e1, e2]) (fun a _ => by simp [M_spec_l17ProtectedL1]) ([], []) ⟨Nat.le_refl _, Nat.le_refl _⟩ (by omega)
  rw [walkL_fil2] at this
  have e : ((0 : Nat) : Int) = 0 := rfl
  simp only [e, List.nil_append] at this
  rw [this]; rfl
theorem nodup_le : ∀ (m : Nat) (l : List Int), l.Nodup → (∀ x ∈ l, 0 ≤ x ∧ x < (m : Int)) → l.length ≤ m
  | 0, l, _, h => by
    cases l with
    | nil => simp
    | cons x l => have := h x (by simp); omega
  | m + 1, l, hn, h => by
    by_cases hm : (m : Int) ∈ l
    · have := nodup_le m (l.erase (m : Int)) (hn.erase _) (fun x hx => by
        have h1 := (hn.mem_erase_iff).1 hx
        have := h x h1.2
        have h3 := h1.1
        omega)
      rw [List.length_erase_of_mem hm] at this
      omega
    · have := nodup_le m l hn (fun x hx => by
        have := h x hx
        have : x ≠ (m : Int) := fun e => hm (e ▸ hx)
        omega)
      omega
theorem wkI_rng {n : TNetwork} (hn : netOk n = true) (ring : List Int) : ∀ (ys : List Int) (i : Nat) (p q : Int × List Int), (0 ≤ p.1 ∧ p.1 < n.Nodes.length) → (∀ x ∈ p.2, 0 ≤ x ∧ x < (n.Nodes.length : Int)) → wkI n ring i ys p = .inl q → ∀ x ∈ q.2, 0 ≤ x ∧ x < (n.Nodes.length : Int)
  | [], i, p, q, _, hp2, h => by unfold wkI walkL at h; cases h; exact hp2
  | e :: ys, i, p, q, hp1, hp2, h => by
    rw [wkI_cons] at h
    unfold stI at h
    by_cases h1 : badE n ring i e = true
    · rw [if_pos h1] at h; cases h
    · rw [if_neg h1] at h
      by_cases h2 : othI n e p.1 < 0
      · rw [if_pos h2] at h; cases h
      · rw [if_neg h2] at h
        refine wkI_rng hn ring ys (i + 1) _ q ?_ ?_ h
        · have hw := (badE_wi (by simpa using h1)).1
          obtain ⟨f, _, g2⟩ := geti_fib hw
          obtain ⟨a0, ab, bm, _⟩ := netOk_fibR hn g2
          simp only
          unfold othI at h2 ⊢
          rw [g2] at h2 ⊢
          simp only at h2 ⊢
          unfold otherP at h2 ⊢
          split
          · omega
          · rename_i c1
            split
            · omega
            · rename_i c2
              rw [if_neg c1, if_neg c2] at h2; omega
        · intro x hx
          simp only [List.mem_append, List.mem_singleton] at hx
          rcases hx with hx | rfl
          · exact hp2 x hx
          · exact hp1
theorem ring_facts {n : TNetwork} (hn : netOk n = true) {ring l : List Int} (hr : ring.length ≤ 1048576) (hp : ringP n ring = some l) : ring.Nodup ∧ ring.length ≤ 8 ∧ 2 ≤ ring.length ∧ l.length ≤ 8 ∧ ∀ e ∈ ring, 0 ≤ e ∧ e < (n.Fibers.length : Int) := by
  obtain ⟨b1, b2, b3⟩ := netOk_bR hn
  obtain ⟨h1, h2, _⟩ := ringP_some.1 hp
  obtain ⟨g1, g2, g3⟩ := okS_iff.1 h1
  obtain ⟨e0, f, k1, k2, k3, k4, _⟩ := start_two hn h1
  obtain ⟨a0, ab, bm, _⟩ := k4
  have hrng := wkI_rng hn ring ring 0 _ _ (by simp only; rw [k3]; omega) (by simp) g1
  have hle := nodup_le n.Nodes.length _ g2 hrng
  have hlen := nd_len (by omega) hr h1
  refine ⟨wkI_nodup g1, by omega, g3, by rw [← h2]; omega, fun e he => ?_⟩
  obtain ⟨j, hj⟩ := List.getElem?_of_mem he
  have := wkI_ok n ring ring 0 _ _ g1 j e hj
  have := wi_iff.1 (badE_wi this).1
  omega
theorem p_protected (n : TNetwork) (ring l : List Int) (hn : netOk n = true) (hr : ring.length ≤ 1048576) (hp : ringP n ring = some l) : M_impl_protected n ring = some (ownP n ring, crsP n ring l) := by
  obtain ⟨b1, b2, b3⟩ := netOk_bR hn
  obtain ⟨r1, r2, r3, r4, r5⟩ := ring_facts hn hr hp
  unfold M_impl_protected
  obtain ⟨ys, s1, s2, s3⟩ := p_SortI ring (by omega)
  obtain ⟨l', a1, a2⟩ := p_around n ring (by omega) hr
  have := a2 l hp
  subst this
  simp only [p_CloneI ring hr, s1, a1, Option.bind_some, bnd]
  have := iter_list (f := M_impl_protectedL1 n ring (l', (ringP n ring).isSome)) n.Fibers (fun i (a : List Int) => ((i : Int), a)) (fun i f a => .inl (if !ownB ring i f && crsB l' i f then a ++ [(i : Int)] else a)) (fun a => a) (fun i a => a.length ≤ i) (fun i a f hf hI => by
    have hlt := (List.getElem?_eq_some_iff.1 hf).1
    have h1 : decide ((i : Int) < n.Fibers.length) = true := by simp [hlt]
    refine .inl ⟨_, rfl, ?_, ?_⟩
    · split
      · simp only [List.length_append, List.length_cons, List.length_nil]; omega
      · omega
    · simp only [M_impl_protectedL1, h1, cond_true, geti_nat, hf, Option.bind_some, p_ContI ring (i : Int) hr, p_ContI l' _ (show l'.length ≤ 1048576 by omega), bnd]
      rw [w64_eq (by omega) (by omega), grd_t (by omega)]
      unfold ownB crsB
      by_cases e1 : (i : Int) ∈ ring
      · simp [e1]
      · by_cases e2 : f.A ∈ l'
        · by_cases e3 : f.B ∈ l' <;> simp [e1, e2, e3]
        · simp [e1, e2]) (fun a _ => by simp [M_impl_protectedL1]) [] (Nat.le_refl _) (by omega)
  rw [walkL_fil (fun i f => !ownB ring i f && crsB l' i f)] at this
  have e : ((0 : Nat) : Int) = 0 := rfl
  simp only [e, List.nil_append] at this
  rw [this]
  simp only [Option.bind_some]
  have e1 : subT ys 0 ring.length = ys := by rw [← s2.length_eq]; exact subT_all ys
  have e2 : ys = ownP n ring := by
    refine rise_eq _ _ (sorted_lt s3 (s2.nodup_iff.2 r1)) (filI_lt _ _ _) fun x => ?_
    rw [s2.mem_iff]
    unfold ownP
    rw [filI_mem]
    constructor
    · intro hx
      have := r5 x hx
      have hlt : x.toNat < n.Fibers.length := by omega
      refine ⟨x.toNat, n.Fibers[x.toNat], List.getElem?_eq_getElem hlt, ?_, by omega⟩
      unfold ownB
      rw [Nat.zero_add, Int.toNat_of_nonneg (by omega)]; simpa using hx
    · rintro ⟨j, f, h1, h2, rfl⟩
      unfold ownB at h2
      simpa using h2
  rw [e1, e2]; rfl
def pfP (n : TNetwork) (ring : List Int) : List Int × List Int × Bool := if netOk n then (match ringP n ring with | some l => (ownP n ring, crsP n ring l, true) | none => ([], [], false)) else ([], [], false)
theorem own_len (n : TNetwork) (ring : List Int) : (ownP n ring).length ≤ n.Fibers.length := filI_len _ _ _
theorem crs_len (n : TNetwork) (ring l : List Int) : (crsP n ring l).length ≤ n.Fibers.length := filI_len _ _ _
theorem own_pos {n : TNetwork} (hn : netOk n = true) {ring l : List Int} (hr : ring.length ≤ 1048576) (hp : ringP n ring = some l) : 0 < (ownP n ring).length := by
  obtain ⟨r1, r2, r3, r4, r5⟩ := ring_facts hn hr hp
  have h0 : 0 < ring.length := by omega
  have := r5 ring[0] (List.getElem_mem h0)
  have hlt : ring[0].toNat < n.Fibers.length := by omega
  refine List.length_pos_of_mem (a := ring[0]) ((filI_mem _ _ _ _).2 ⟨ring[0].toNat, n.Fibers[ring[0].toNat], List.getElem?_eq_getElem hlt, ?_, by omega⟩)
  unfold ownB
  rw [Nat.zero_add, Int.toNat_of_nonneg (by omega)]; simp
theorem own_rng {n : TNetwork} {ring : List Int} {x : Int} (h : x ∈ ownP n ring) : 0 ≤ x ∧ x < n.Fibers.length := by
  obtain ⟨j, f, h1, _, rfl⟩ := (filI_mem _ _ _ _).1 h
  have := (List.getElem?_eq_some_iff.1 h1).1
  omega
theorem crs_rng {n : TNetwork} {ring l : List Int} {x : Int} (h : x ∈ crsP n ring l) : 0 ≤ x ∧ x < n.Fibers.length := by
  obtain ⟨j, f, h1, _, rfl⟩ := (filI_mem _ _ _ _).1 h
  have := (List.getElem?_eq_some_iff.1 h1).1
  omega
end Vs

namespace Vs
open Go
theorem ringl_len {n : TNetwork} (hn : netOk n = true) {ring l : List Int} (hr : ring.length ≤ 1048576) (hp : ringP n ring = some l) : l.length ≤ 1048576 := by
  have := (ring_facts hn hr hp).2.2.2.1
  omega
theorem zr_ProtectedFibers (n : TNetwork) (ring : List Int) (hz : z_Network n ≤ 1048576) (hr : ring.length ≤ 1048576) : z_IntS (pfP n ring).1 ≤ 1048576 ∧ z_IntS (pfP n ring).2.1 ≤ 1048576 := by
  show (pfP n ring).1.length ≤ 1048576 ∧ (pfP n ring).2.1.length ≤ 1048576
  obtain ⟨h1, h2, h3⟩ := z_net hz
  unfold pfP
  split
  · cases hp : ringP n ring with
    | none => simp
    | some l =>
      have a := own_len n ring
      have b := crs_len n ring l
      exact ⟨by simp only; omega, by simp only; omega⟩
  · simp
def effI (a b : Int) : Int := IntKind.wrap .i64 (Int.tdiv (IntKind.wrap .i64 (1000 * (IntKind.wrap .i64 (a + (IntKind.wrap .i64 (2 * b)))))) a)
def effP (n : TNetwork) (ring : List Int) : Int × Bool := if netOk n then (match ringP n ring with | some l => (effI (ownP n ring).length (crsP n ring l).length, true) | none => (0, false)) else (0, false)
def mxZ (a b : Int) : Int := if a < b then b else a
theorem walkL_mx (g : Int → Int) : ∀ (xs : List Int) (i : Nat) (m : Int), walkL (fun _ y (m : Int) => (.inl (mxZ m (g y)) : Int ⊕ Int)) (fun m => m) i xs m = xs.foldl (fun m y => mxZ m (g y)) m
  | [], i, m => by simp [walkL]
  | y :: xs, i, m => by simp only [walkL, List.foldl_cons]; exact walkL_mx g xs (i + 1) _
theorem p_l1Most (a b : Int) : M_spec_l1Most a b = some (mxZ a b) := by
  unfold M_spec_l1Most mxZ
  by_cases h : b < a
  · rw [decide_eq_true h, cond_true, if_neg (by omega)]
  · rw [decide_eq_false h, cond_false]
    by_cases h2 : a < b
    · rw [if_pos h2]
    · rw [if_neg h2]; congr 1; omega
def gwZ (w : List Int) (y : Int) : Int := (w[y.toNat]?).getD 0
theorem gwZ_at {w : List Int} {y : Int} (h0 : 0 ≤ y) (h1 : y < w.length) : geti w y = some (gwZ w y) := by
  unfold geti gwZ
  rw [if_pos h0, List.getElem?_eq_getElem (by omega)]; rfl
def hlf (w : List Int) (y : Int) : Int := IntKind.wrap .i64 (Int.tdiv (IntKind.wrap .i64 (gwZ w y + 1)) 2)
theorem mx_loop {f : Int × Int → Option ((Int × Int) ⊕ Int)} (xs : List Int) (g : Int → Int) (hl : xs.length ≤ 1048576) (h1 : ∀ (i : Nat) y m, xs[i]? = some y → f (m, (i : Int)) = some (.inl (mxZ m (g y), ((i + 1 : Nat) : Int)))) (h2 : ∀ m, f (m, (xs.length : Int)) = some (.inr m)) (m0 : Int) :
    iter f N0 (m0, 0) = some (xs.foldl (fun m y => mxZ m (g y)) m0) := by
  have := iter_list (f := f) xs (fun i (m : Int) => (m, (i : Int))) (fun _ y m => .inl (mxZ m (g y))) (fun m => m) (fun _ _ => True) (fun i m y hy _ => .inl ⟨_, rfl, trivial, h1 i y m hy⟩) (fun m _ => h2 m) m0 trivial (by omega)
  rw [walkL_mx] at this
  exact this
def capB (n : TNetwork) (w : List Int) : Bool := decide (w.length = n.Fibers.length) && !w.any fun x => !wi x 0 1000
def capP (n : TNetwork) (ring w : List Int) : Int × Bool := if netOk n then (match ringP n ring with | some l => (if capB n w then ((crsP n ring l).foldl (fun m y => mxZ m (hlf w y)) ((ownP n ring).foldl (fun m y => mxZ m (gwZ w y)) 0), true) else (0, false)) | none => (0, false)) else (0, false)
theorem bne_lenR {α β : Type} (a : List α) (b : List β) : ((a.length : Int) != (b.length : Int)) = !decide (a.length = b.length) := by
  rw [Bool.eq_iff_iff]; simp; omega
theorem p_CFi (xs : List Int) (f : Int → Option Bool) (p : Int → Bool) (hf : ∀ x, f x = some (p x)) (hl : xs.length ≤ 1048576) : M_slices_ContainsFunc_Lint_int xs f = some (xs.any p) := by
  unfold M_slices_ContainsFunc_Lint_int M_slices_IndexFunc_Lint_int
  rw [iter_findI (f := M_slices_IndexFunc_Lint_intL1 xs f) xs (fun _ x => p x) (fun i _ => (i : Int)) () (fun i x hx _ => by
    have hlt := (List.getElem?_eq_some_iff.1 hx).1
    have h1 : decide ((i : Int) < xs.length) = true := by simp [hlt]
    simp only [M_slices_IndexFunc_Lint_intL1, h1, cond_true, geti_nat, hx, hf, Option.bind_some]
    rw [w64_eq (by omega) (by omega)]
    rcases bt (p x) with e | e <;> simp only [e] <;> rfl) (by simp [M_slices_IndexFunc_Lint_intL1]) (by omega)]
  rw [← anyI_any]
  cases e : findI (fun _ x => p x) xs with
  | none =>
    have h : anyI (fun _ x => p x) xs = false := anyI_false.2 (findI_none.1 e)
    rw [h]; rfl
  | some q =>
    obtain ⟨i, x⟩ := q
    obtain ⟨h1, h2, _⟩ := findI_some.1 e
    have h : anyI (fun _ x => p x) xs = true := anyI_iff.2 ⟨i, x, h1, h2⟩
    rw [h]; simp
theorem p_impl_RingCapacity (n : TNetwork) (ring w : List Int) (hz : z_Network n ≤ 1048576) (hr : ring.length ≤ 1048576) (hw : w.length ≤ 1048576) : M_impl_RingCapacity n ring w = some (capP n ring w) := by
  obtain ⟨z1, z2, _⟩ := z_net hz
  unfold M_impl_RingCapacity capP
  rw [p_impl_IsRing n ring hz hr]
  unfold isRingB
  rcases bt (netOk n) with hn | hn
  · rw [hn]
    cases hp : ringP n ring with
    | none => rfl
    | some l =>
      simp only [Option.bind_some, Option.isSome_some, Bool.and_self, Bool.not_true, cond_false, bne_lenR, p_CFi w M_impl_RingCapacity_c1 (fun x => !wi x 0 1000) (fun x => by unfold M_impl_RingCapacity_c1; rw [p_within]; rfl) hw]
      unfold capB
      by_cases e1 : w.length = n.Fibers.length
      · rcases bt (w.any fun x => !wi x 0 1000) with e2 | e2
        · simp [e1, e2]
        · simp only [e1, e2, decide_true, Bool.not_true, cond_false, Bool.not_false, Bool.and_self, if_true, Option.bind_some, p_protected n ring l hn hr hp]
          have a := own_len n ring
          have b := crs_len n ring l
          rw [mx_loop (f := M_impl_RingCapacityL1 w (ownP n ring, crsP n ring l)) (ownP n ring) (gwZ w) (by omega) (fun i y m hy => by
            have hlt := (List.getElem?_eq_some_iff.1 hy).1
            have h1 : decide ((i : Int) < (ownP n ring).length) = true := by simp [hlt]
            have hy2 := own_rng (List.mem_of_getElem? hy)
            simp only [M_impl_RingCapacityL1, h1, cond_true, Int.toNat_natCast, hy]
            rw [grd_t (by omega), w64_eq (by omega) (by omega)]
            simp only [Option.bind_some, gwZ_at hy2.1 (show y < (w.length : Int) by omega)]
            rfl) (fun m => by simp [M_impl_RingCapacityL1])]
          simp only [Option.bind_some]
          rw [mx_loop (f := M_impl_RingCapacityL2 w (ownP n ring, crsP n ring l)) (crsP n ring l) (hlf w) (by omega) (fun i y m hy => by
            have hlt := (List.getElem?_eq_some_iff.1 hy).1
            have h1 : decide ((i : Int) < (crsP n ring l).length) = true := by simp [hlt]
            have hy2 := crs_rng (List.mem_of_getElem? hy)
            simp only [M_impl_RingCapacityL2, h1, cond_true, Int.toNat_natCast, hy]
            rw [grd_t (by omega), grd_t (by omega), w64_eq (n := (i : Int) + 1) (by omega) (by omega)]
            simp only [Option.bind_some, gwZ_at hy2.1 (show y < (w.length : Int) by omega)]
            rfl) (fun m => by simp [M_impl_RingCapacityL2])]
          rfl
      · simp [e1]
  · rw [hn]; rfl
theorem p_spec_RingCapacity (n : TNetwork) (ring w : List Int) (hz : z_Network n ≤ 1048576) (hr : ring.length ≤ 1048576) (hw : w.length ≤ 1048576) : M_spec_RingCapacity n ring w = some (capP n ring w) := by
  obtain ⟨z1, z2, _⟩ := z_net hz
  unfold M_spec_RingCapacity capP
  rw [p_spec_IsRing n ring hz hr]
  unfold isRingB
  rcases bt (netOk n) with hn | hn
  · rw [hn]
    cases hp : ringP n ring with
    | none => rfl
    | some l =>
      simp only [Option.bind_some, Option.isSome_some, Bool.and_self, Bool.not_true, cond_false, bne_lenR]
      unfold capB
      by_cases e1 : w.length = n.Fibers.length
      · simp only [e1, decide_true, Bool.not_true, cond_false, Bool.true_and]
        rw [iter_any (f := M_spec_RingCapacityL1 w) w (fun x => !wi x 0 1000) (.inr (0, false)) (.inl ()) (fun i x hx => by
          have hlt := (List.getElem?_eq_some_iff.1 hx).1
          have h1 : decide ((i : Int) < w.length) = true := by simp [hlt]
          simp only [M_spec_RingCapacityL1, h1, cond_true, geti_nat, hx, Option.bind_some, p_l1In]
          rw [w64_eq (by omega) (by omega)]
          cases wi x 0 1000 <;> rfl) (by simp [M_spec_RingCapacityL1]) (by omega)]
        rcases bt (w.any fun x => !wi x 0 1000) with e2 | e2
        · simp [e2]
        · simp only [e2, Bool.false_eq_true, if_false, Bool.not_false, if_true, Option.bind_some, p_l17Protected n ring l hn hr (ringl_len hn hr hp) hp]
          have a := own_len n ring
          have b := crs_len n ring l
          rw [mx_loop (f := M_spec_RingCapacityL2 w (ownP n ring, crsP n ring l)) (ownP n ring) (gwZ w) (by omega) (fun i y m hy => by
            have hlt := (List.getElem?_eq_some_iff.1 hy).1
            have h1 : decide ((i : Int) < (ownP n ring).length) = true := by simp [hlt]
            have hy2 := own_rng (List.mem_of_getElem? hy)
            simp only [M_spec_RingCapacityL2, h1, cond_true, Int.toNat_natCast, hy]
            rw [grd_t (by omega), w64_eq (by omega) (by omega)]
            simp only [Option.bind_some, gwZ_at hy2.1 (show y < (w.length : Int) by omega), p_l1Most]
            rfl) (fun m => by simp [M_spec_RingCapacityL2])]
          simp only [Option.bind_some]
          rw [mx_loop (f := M_spec_RingCapacityL3 w (ownP n ring, crsP n ring l)) (crsP n ring l) (hlf w) (by omega) (fun i y m hy => by
            have hlt := (List.getElem?_eq_some_iff.1 hy).1
            have h1 : decide ((i : Int) < (crsP n ring l).length) = true := by simp [hlt]
            have hy2 := crs_rng (List.mem_of_getElem? hy)
            simp only [M_spec_RingCapacityL3, h1, cond_true, Int.toNat_natCast, hy]
            rw [grd_t (by omega), grd_t (by omega), w64_eq (n := (i : Int) + 1) (by omega) (by omega)]
            simp only [Option.bind_some, gwZ_at hy2.1 (show y < (w.length : Int) by omega), p_l1Most]
            rfl) (fun m => by simp [M_spec_RingCapacityL3])]
          rfl
      · simp [e1]
  · rw [hn]; rfl
end Vs

namespace Vs
open Go
theorem subT_len {α : Type} {xs : List α} {n : Nat} (h : xs.length = n) : subT xs 0 n = xs := by subst h; exact subT_all xs
theorem p_FnExactRingCapacity (x1 : TNetwork) (x2 : List Int) (x3 : List Int) (o1 : ok_Network x1) (o2 : ok_IntS x2) (o3 : ok_IntS x3) : M_laws_FnExactRingCapacity x1 x2 x3 = some true := by
  unfold M_laws_FnExactRingCapacity
  by_cases hc1 : (1048576 : Int) < (x2.length : Int)
  · simp [hc1]
  simp only [hc1, decide_false, cond_false]
  by_cases hc2 : (1048576 : Int) < (x3.length : Int)
  · simp [hc2]
  simp only [hc2, decide_false, cond_false]
  rw [p_szNetwork x1 _ (by omega) (by omega) o1]
  simp only [Option.bind_some]
  by_cases hc3 : (1048576 : Int) - z_Network x1 < 0
  · simp [hc3]
  simp only [hc3, if_false, decide_false, cond_false]
  have z2 : z_IntS x2 ≤ 1048576 := by unfold z_IntS; omega
  have z3 : z_IntS x3 ≤ 1048576 := by unfold z_IntS; omega
  have z1 : z_Network x1 ≤ 1048576 := by omega
  simp only [p_spec_RingCapacity x1 x2 x3 z1 z2 z3, p_impl_RingCapacity x1 x2 x3 z1 z2 z3, p_toNetwork x1 z1, p_toIntS x2 z2, p_toIntS x3 z3, p_eqNetwork x1 z1, p_eqIntS x2 z2, p_eqIntS x3 z3, Option.bind_some, Bool.not_true, beq_self_eq_true, bnd, bne_self_eq_false, cond_false, cond_true]
end Vs

