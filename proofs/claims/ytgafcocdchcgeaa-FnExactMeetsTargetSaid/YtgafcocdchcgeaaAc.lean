/-
  Part of the proof that the law FnExactMeetsTarget returns true at every input; no condition beside the row's own.
-/
import Derived.Test.YtgafcocdchcgeaaFe
import Derived.Test.YtgafcocdchcgeaaAa
set_option linter.unusedSimpArgs false
set_option linter.unusedVariables false
namespace Vs
open Go
def z_StringS (xs : (List ByteArray)) : Nat := xs.length + (xs.map fun x => x.size).sum
def ok_StringS (xs : (List ByteArray)) : Prop := xs.length ≤ 9223372036854775807 ∧ ∀ x ∈ xs, x.size ≤ 9223372036854775807
theorem p_szStringS (xs : (List ByteArray)) (l : Int) (h1 : 0 ≤ l) (h2 : l ≤ 1048576) (hs : ok_StringS xs) : M_laws_szStringS xs l = some (if l - z_StringS xs < 0 then (-1 : Int) else l - z_StringS xs) := by
  unfold M_laws_szStringS
  have hs1 := hs.1
  rw [w64_eq (by omega) (by omega)]
  simp only [cond_ite, decide_eq_true_eq]
  by_cases h : l - (xs.length : Int) < 0
  · rw [if_pos h, if_pos (by unfold z_StringS; omega)]
  · rw [if_neg h, sz_loop (f := M_laws_szStringSL1 xs) xs (fun x => x.size) (fun i x l' hx h3 h4 => by
      have hlt := (List.getElem?_eq_some_iff.1 hx).1
      have h1 : decide ((i : Int) < xs.length) = true := by simp [hlt]
      have hx2 := hs.2 x (List.mem_of_getElem? hx)
      simp only [M_laws_szStringSL1, h1, cond_true, geti_nat, hx, Option.bind_some, cond_ite, decide_eq_true_eq]
      rw [w64_eq (by omega) (by omega), w64_eq (by omega) (by omega)]
      by_cases h5 : l' - (x.size : Int) < 0
      · simp only [if_pos h5, if_true]
      · simp only [if_neg h5, if_true]; rfl) (fun l => by simp [M_laws_szStringSL1]) _ (by omega) (by omega) (by omega)]
    have e : l - (xs.length : Int) - ((xs.map fun x => x.size).sum : Nat) = l - (z_StringS xs : Int) := by unfold z_StringS; omega
    rw [e]
    by_cases h5 : l - (z_StringS xs : Int) < 0
    · simp only [if_pos h5, Option.bind_some]
    · simp only [if_neg h5, Option.bind_some]
theorem p_toStringS (xs : (List ByteArray)) (hl : z_StringS xs ≤ 1048576) : M_laws_toStringS xs = some xs := by
  unfold M_laws_toStringS
  have hlen : xs.length ≤ 1048576 := by unfold z_StringS at hl; omega
  have key := fun l0 (h0 : l0.length = xs.length) => iter_copy (f := M_laws_toStringSL1 xs) xs id l0 h0 (fun i l x y hx hy hll => by
    have hlt := (List.getElem?_eq_some_iff.1 hx).1
    have h1 : decide ((i : Int) < xs.length) = true := by simp [hlt]
    have h2 : (0 ≤ (i : Int) ∧ (i : Int) < (l.length : Int)) := by omega
    simp only [M_laws_toStringSL1, h1, cond_true, geti_nat, hx, Option.bind_some, grd_t h2, Int.toNat_natCast, hy, bnd, id]
    rw [w64_eq (by omega) (by omega)]; rfl) (fun l => by simp [M_laws_toStringSL1]) (by omega)
  rw [grd_t (by omega)]
  simp only [Option.bind_some, bnd]
  rw [key _ (by simp)]; simp
theorem p_eqStringS (xs : (List ByteArray)) (hl : z_StringS xs ≤ 1048576) : M_laws_eqStringS xs xs = some true := by
  unfold M_laws_eqStringS
  have hlen : xs.length ≤ 1048576 := by unfold z_StringS at hl; omega
  rw [eq_loop (f := M_laws_eqStringSL1 xs xs) xs (fun i x hx => by
    have hlt := (List.getElem?_eq_some_iff.1 hx).1
    have h1 : decide ((i : Int) < xs.length) = true := by simp [hlt]
    simp only [M_laws_eqStringSL1, h1, cond_true, geti_nat, hx, Option.bind_some, beq_self_eq_true, Bool.not_true, cond_false]
    rw [w64_eq (by omega) (by omega)]; rfl) (by simp [M_laws_eqStringSL1]) (by omega)]
  simp
theorem p_toFiber (x : TFiber) : M_laws_toFiber x = some x := by unfold M_laws_toFiber; rfl
theorem p_eqFiber (x : TFiber) : M_laws_eqFiber x x = some true := by unfold M_laws_eqFiber; simp
def z_FiberS (xs : (List TFiber)) : Nat := xs.length
def ok_FiberS (xs : (List TFiber)) : Prop := xs.length ≤ 9223372036854775807
theorem p_szFiberS (xs : (List TFiber)) (l : Int) (h1 : 0 ≤ l) (h2 : l ≤ 1048576) (hs : ok_FiberS xs) : M_laws_szFiberS xs l = some (if l - z_FiberS xs < 0 then (-1 : Int) else l - z_FiberS xs) := by
  unfold M_laws_szFiberS
  unfold ok_FiberS at hs
  rw [w64_eq (by omega) (by omega)]
  simp only [cond_ite, decide_eq_true_eq]
  by_cases h : l - (xs.length : Int) < 0
  · rw [if_pos h, if_pos (show l - (z_FiberS xs : Int) < 0 from h)]
  · rw [if_neg h, if_neg (show ¬ l - (z_FiberS xs : Int) < 0 from h)]; rfl
theorem p_toFiberS (xs : (List TFiber)) (hl : z_FiberS xs ≤ 1048576) : M_laws_toFiberS xs = some xs := by
  unfold M_laws_toFiberS
  have hlen : xs.length ≤ 1048576 := by unfold z_FiberS at hl; omega
  have key := fun l0 (h0 : l0.length = xs.length) => iter_copy (f := M_laws_toFiberSL1 xs) xs id l0 h0 (fun i l x y hx hy hll => by
    have hlt := (List.getElem?_eq_some_iff.1 hx).1
    have h1 : decide ((i : Int) < xs.length) = true := by simp [hlt]
    have h2 : (0 ≤ (i : Int) ∧ (i : Int) < (l.length : Int)) := by omega
    have hto : M_laws_toFiber x = some x := p_toFiber x
    simp only [M_laws_toFiberSL1, h1, cond_true, geti_nat, hx, Option.bind_some, grd_t h2, Int.toNat_natCast, hy, hto, bnd, id]
    rw [w64_eq (by omega) (by omega)]; rfl) (fun l => by simp [M_laws_toFiberSL1]) (by omega)
  rw [grd_t (by omega)]
  simp only [Option.bind_some, bnd]
  rw [key _ (by simp)]; simp
theorem p_eqFiberS (xs : (List TFiber)) (hl : z_FiberS xs ≤ 1048576) : M_laws_eqFiberS xs xs = some true := by
  unfold M_laws_eqFiberS
  have hlen : xs.length ≤ 1048576 := by unfold z_FiberS at hl; omega
  rw [eq_loop (f := M_laws_eqFiberSL1 xs xs) xs (fun i x hx => by
    have hlt := (List.getElem?_eq_some_iff.1 hx).1
    have h1 : decide ((i : Int) < xs.length) = true := by simp [hlt]
    have he : M_laws_eqFiber x x = some true := p_eqFiber x
    simp only [M_laws_eqFiberSL1, h1, cond_true, geti_nat, hx, Option.bind_some, he, Bool.not_true, cond_false]
    rw [w64_eq (by omega) (by omega)]; rfl) (by simp [M_laws_eqFiberSL1]) (by omega)]
  simp
def z_Network (x : TNetwork) : Nat := z_StringS x.Nodes + z_FiberS x.Fibers
def ok_Network (x : TNetwork) : Prop := ok_StringS x.Nodes ∧ ok_FiberS x.Fibers
theorem p_szNetwork (x : TNetwork) (l : Int) (h1 : 0 ≤ l) (h2 : l ≤ 1048576) (hs : ok_Network x) : M_laws_szNetwork x l = some (if l - z_Network x < 0 then (-1 : Int) else l - z_Network x) := by
  unfold M_laws_szNetwork
  obtain ⟨hs0, hs1⟩ := hs
  rw [p_szStringS _ _ (by omega) (by omega) hs0]
  simp only [Option.bind_some]
  by_cases h10 : l - (z_StringS x.Nodes : Int) < 0
  · rw [if_pos h10, if_pos (show l - (z_Network x : Int) < 0 by unfold z_Network; omega)]; simp
  · simp only [if_neg h10]
    simp only [h10, decide_false, cond_false]
    rw [p_szFiberS _ _ (by omega) (by omega) hs1]
    simp only [Option.bind_some]
    by_cases h11 : l - (z_StringS x.Nodes : Int) - (z_FiberS x.Fibers : Int) < 0
    · rw [if_pos h11, if_pos (show l - (z_Network x : Int) < 0 by unfold z_Network; omega)]; simp
    · simp only [if_neg h11]
      simp only [h11, decide_false, cond_false]
      have e : l - (z_StringS x.Nodes : Int) - (z_FiberS x.Fibers : Int) = l - (z_Network x : Int) := by unfold z_Network; omega
      rw [e, if_neg (by omega)]
theorem p_toNetwork (x : TNetwork) (hl : z_Network x ≤ 1048576) : M_laws_toNetwork x = some x := by
  unfold M_laws_toNetwork
  simp only [p_toStringS x.Nodes (by unfold z_Network at hl; omega), p_toFiberS x.Fibers (by unfold z_Network at hl; omega), Option.bind_some]
theorem p_eqNetwork (x : TNetwork) (hl : z_Network x ≤ 1048576) : M_laws_eqNetwork x x = some true := by
  unfold M_laws_eqNetwork
  simp [p_eqStringS x.Nodes (by unfold z_Network at hl; omega), p_eqFiberS x.Fibers (by unfold z_Network at hl; omega)]
def z_IntS (xs : (List Int)) : Nat := xs.length
def ok_IntS (xs : (List Int)) : Prop := xs.length ≤ 9223372036854775807
theorem p_szIntS (xs : (List Int)) (l : Int) (h1 : 0 ≤ l) (h2 : l ≤ 1048576) (hs : ok_IntS xs) : M_laws_szIntS xs l = some (if l - z_IntS xs < 0 then (-1 : Int) else l - z_IntS xs) := by
  unfold M_laws_szIntS
  unfold ok_IntS at hs
  rw [w64_eq (by omega) (by omega)]
  simp only [cond_ite, decide_eq_true_eq]
  by_cases h : l - (xs.length : Int) < 0
  · rw [if_pos h, if_pos (show l - (z_IntS xs : Int) < 0 from h)]
  · rw [if_neg h, if_neg (show ¬ l - (z_IntS xs : Int) < 0 from h)]; rfl
theorem p_toIntS (xs : (List Int)) (hl : z_IntS xs ≤ 1048576) : M_laws_toIntS xs = some xs := by
  unfold M_laws_toIntS
  have hlen : xs.length ≤ 1048576 := by unfold z_IntS at hl; omega
  have key := fun l0 (h0 : l0.length = xs.length) => iter_copy (f := M_laws_toIntSL1 xs) xs id l0 h0 (fun i l x y hx hy hll => by
    have hlt := (List.getElem?_eq_some_iff.1 hx).1
    have h1 : decide ((i : Int) < xs.length) = true := by simp [hlt]
    have h2 : (0 ≤ (i : Int) ∧ (i : Int) < (l.length : Int)) := by omega
    simp only [M_laws_toIntSL1, h1, cond_true, geti_nat, hx, Option.bind_some, grd_t h2, Int.toNat_natCast, hy, bnd, id]
    rw [w64_eq (by omega) (by omega)]; rfl) (fun l => by simp [M_laws_toIntSL1]) (by omega)
  rw [grd_t (by omega)]
  simp only [Option.bind_some, bnd]
  rw [key _ (by simp)]; simp
theorem p_eqIntS (xs : (List Int)) (hl : z_IntS xs ≤ 1048576) : M_laws_eqIntS xs xs = some true := by
  unfold M_laws_eqIntS
  have hlen : xs.length ≤ 1048576 := by unfold z_IntS at hl; omega
  rw [eq_loop (f := M_laws_eqIntSL1 xs xs) xs (fun i x hx => by
    have hlt := (List.getElem?_eq_some_iff.1 hx).1
    have h1 : decide ((i : Int) < xs.length) = true := by simp [hlt]
    simp only [M_laws_eqIntSL1, h1, cond_true, geti_nat, hx, Option.bind_some, bne_self_eq_false, cond_false]
    rw [w64_eq (by omega) (by omega)]; rfl) (by simp [M_laws_eqIntSL1]) (by omega)]
  simp
def z_Outage (x : TOutage) : Nat := z_IntS x.Down
def ok_Outage (x : TOutage) : Prop := ok_IntS x.Down
theorem p_szOutage (x : TOutage) (l : Int) (h1 : 0 ≤ l) (h2 : l ≤ 1048576) (hs : ok_Outage x) : M_laws_szOutage x l = some (if l - z_Outage x < 0 then (-1 : Int) else l - z_Outage x) := by
  unfold M_laws_szOutage
  have hs0 : ok_IntS x.Down := hs
  rw [p_szIntS _ _ (by omega) (by omega) hs0]
  simp only [Option.bind_some]
  by_cases h10 : l - (z_IntS x.Down : Int) < 0
  · rw [if_pos h10, if_pos (show l - (z_Outage x : Int) < 0 by unfold z_Outage; omega)]; simp
  · simp only [if_neg h10]
    simp only [h10, decide_false, cond_false]
    have e : l - (z_IntS x.Down : Int) = l - (z_Outage x : Int) := by unfold z_Outage; omega
    rw [e, if_neg (by omega)]
theorem p_toOutage (x : TOutage) (hl : z_Outage x ≤ 1048576) : M_laws_toOutage x = some x := by
  unfold M_laws_toOutage
  simp only [p_toIntS x.Down (by unfold z_Outage at hl; omega), Option.bind_some]
theorem p_eqOutage (x : TOutage) (hl : z_Outage x ≤ 1048576) : M_laws_eqOutage x x = some true := by
  unfold M_laws_eqOutage
  simp [p_eqIntS x.Down (by unfold z_Outage at hl; omega)]
end Vs

namespace Vs
open Go
theorem len_lt (b : Nat) (h : b ≤ 1048576) : b < 18446744073709551615 := by omega
def wi (x a b : Int) : Bool := decide (a ≤ x) && decide (x ≤ b)
theorem wi_iff {x a b : Int} : wi x a b = true ↔ a ≤ x ∧ x ≤ b := by simp [wi]
theorem wi_false {x a b : Int} : wi x a b = false ↔ ¬ (a ≤ x ∧ x ≤ b) := by rw [← wi_iff]; simp
theorem p_within (x a b : Int) : M_impl_within x a b = some (wi x a b) := by
  unfold M_impl_within wi; by_cases h : a ≤ x <;> simp [h]
theorem p_l1In (x a b : Int) : M_spec_l1In x a b = some (wi x a b) := by
  unfold M_spec_l1In wi; by_cases h : a ≤ x <;> simp [h]

/-! ### names -/
def letB (c : UInt8) : Bool := decide (97 ≤ c.toNat) && decide (c.toNat ≤ 122)
def digB (c : UInt8) : Bool := decide (48 ≤ c.toNat) && decide (c.toNat ≤ 57)
def nameBad (i : Nat) (c : UInt8) : Bool := !letB c && (!digB c || i == 0)
def nameB (s : ByteArray) : Bool := !anyI nameBad s.data.toList && wi s.size 1 8
theorem getz_nat (s : ByteArray) (i : Nat) : getz s (i : Int) = s.data.toList[i]? := by
  unfold getz
  rw [if_pos (by omega), Int.toNat_natCast]
  by_cases h : i < s.size
  · have h2 : i < s.data.toList.length := by simpa using h
    rw [getElem?_pos s i h, List.getElem?_eq_getElem h2]
    rfl
  · have h2 : ¬ i < s.data.toList.length := by simpa using h
    rw [getElem?_neg s i h, List.getElem?_eq_none (Nat.le_of_not_lt h2)]
theorem size_list (s : ByteArray) : s.size = s.data.toList.length := by show s.data.size = s.data.toList.length; rw [Array.length_toList]
theorem letB_c (c : UInt8) : letB c = (decide (97 ≤ (c.toNat : Int)) && decide ((c.toNat : Int) ≤ 122)) := by
  unfold letB
  congr 1 <;> exact decide_eq_decide.2 (by omega)
theorem digB_c (c : UInt8) : digB c = (decide (48 ≤ (c.toNat : Int)) && decide ((c.toNat : Int) ≤ 57)) := by
  unfold digB
  congr 1 <;> exact decide_eq_decide.2 (by omega)
theorem p_isName (s : ByteArray) (hl : s.size ≤ 1048576) : M_impl_isName s = some (nameB s) := by
  unfold M_impl_isName nameB
  rw [size_list] at *
  rw [iter_anyI (f := M_impl_isNameL1 s) s.data.toList nameBad (.inr false) (.inl ()) (fun i c hc _ => by
    have hlt := (List.getElem?_eq_some_iff.1 hc).1
    have h1 : decide ((i : Int) < s.size) = true := decide_eq_true (by rw [size_list]; omega)
    simp only [M_impl_isNameL1, h1, cond_true, getz_nat, hc, Option.bind_some, nameBad, letB_c, digB_c]
    rw [w64_eq (by omega) (by omega)]
    have hi : ((i : Int) == 0) = (i == 0) := by rw [Bool.eq_iff_iff]; simp
    rw [hi]
    cases decide (97 ≤ (c.toNat : Int)) <;> cases decide ((c.toNat : Int) ≤ 122) <;> cases decide (48 ≤ (c.toNat : Int)) <;> cases decide ((c.toNat : Int) ≤ 57) <;> cases (i == 0) <;> rfl) (by simp [M_impl_isNameL1]) (by omega)]
  rw [← size_list]
  cases anyI nameBad s.data.toList <;> simp [p_within]
theorem p_l2Sign (c : UInt8) : M_spec_l2Sign (c.toNat : Int) = some (letB c || digB c) := by
  unfold M_spec_l2Sign
  simp only [letB_c, digB_c]
  cases decide (97 ≤ (c.toNat : Int)) <;> cases decide ((c.toNat : Int) ≤ 122) <;> cases decide (48 ≤ (c.toNat : Int)) <;> rfl
theorem fstc (c : UInt8) : (cond (decide ((c.toNat : Int) < 97)) (some true) (some (decide (122 < (c.toNat : Int)))) : Option Bool) = some (!letB c) := by
  rw [letB_c]
  by_cases h1 : (c.toNat : Int) < 97
  · have h2 : ¬ 97 ≤ (c.toNat : Int) := by omega
    simp [h1, h2]
  · have h2 : 97 ≤ (c.toNat : Int) := by omega
    simp only [h1, decide_false, cond_false, h2, decide_true, Bool.true_and]
    by_cases h3 : 122 < (c.toNat : Int)
    · have h4 : ¬ (c.toNat : Int) ≤ 122 := by omega
      simp [h3, h4]
    · have h4 : (c.toNat : Int) ≤ 122 := by omega
      simp [h3, h4]
theorem p_l2Name (s : ByteArray) (hl : s.size ≤ 1048576) : M_spec_l2Name s = some (nameB s) := by
  unfold M_spec_l2Name nameB
  simp only [p_l1In, Option.bind_some]
  rcases bt (wi s.size 1 8) with hw | hw
  · simp only [hw, Bool.not_true, cond_false, Bool.and_true]
    have hs : 0 < s.data.toList.length := by rw [← size_list]; have := (wi_iff.1 hw).1; omega
    have h0 : s.data.toList[0]? = some s.data.toList[0] := List.getElem?_eq_getElem hs
    have g0 : getz s 0 = some s.data.toList[0] := by rw [← h0]; exact getz_nat s 0
    simp only [g0, Option.bind_some]
    have key := iter_anyI (f := M_spec_l2NameL1 s) s.data.toList (fun _ c => !(letB c || digB c)) (.inr false) (.inl ()) (fun i c hc _ => by
      have hlt := (List.getElem?_eq_some_iff.1 hc).1
      have h1 : decide ((i : Int) < s.size) = true := decide_eq_true (by rw [size_list]; omega)
      rw [size_list] at hl
      simp only [M_spec_l2NameL1, h1, cond_true, getz_nat, hc, Option.bind_some, p_l2Sign]
      rw [w64_eq (by omega) (by omega)]
      cases letB c <;> cases digB c <;> rfl) (by simp [M_spec_l2NameL1]) (by rw [size_list] at hl; omega)
    rw [fstc]
    simp only [Option.bind_some, key]
    rcases bt (letB s.data.toList[0]) with hL | hL
    · simp only [hL, Bool.not_true, cond_false]
      have e : anyI (fun _ c => !(letB c || digB c)) s.data.toList = anyI nameBad s.data.toList := by
        refine anyI_congr fun i c hc _ => ?_
        unfold nameBad
        by_cases hi : i = 0
        · subst hi; rw [h0] at hc; cases hc; rw [hL]; rfl
        · have : (i == 0) = false := by simpa using hi
          rw [this]
          cases letB c <;> cases digB c <;> rfl
      rw [e]
      cases anyI nameBad s.data.toList <;> rfl
    · have : anyI nameBad s.data.toList = true := anyI_iff.2 ⟨0, _, h0, by unfold nameBad; rw [hL]; simp⟩
      simp only [hL, this, Bool.not_false, cond_true, Bool.not_true]
  · simp [hw]

/-! ### which index -/
def idxZ (v : ByteArray) (xs : List ByteArray) : Option (Nat × ByteArray) := findI (fun _ x => x.toList == v.toList) xs
def fidx (v : ByteArray) (xs : List ByteArray) : Int := match idxZ v xs with | some q => (q.1 : Int) | none => -1
theorem p_l2Find (xs : List ByteArray) (v : ByteArray) (hl : xs.length ≤ 1048576) : M_spec_l2Find xs v = some (fidx v xs) := by
  unfold M_spec_l2Find fidx
  rw [iter_findI (f := M_spec_l2FindL1 xs v) xs (fun _ x => x.toList == v.toList) (fun i _ => (i : Int)) () (fun i x hx _ => by
    have hlt := (List.getElem?_eq_some_iff.1 hx).1
    have h1 : decide ((i : Int) < xs.length) = true := by simp [hlt]
    simp only [M_spec_l2FindL1, h1, cond_true, geti_nat, hx, Option.bind_some]
    rw [w64_eq (by omega) (by omega)]
    cases x.toList == v.toList <;> rfl) (by simp [M_spec_l2FindL1]) (by omega)]
  unfold idxZ
  cases findI (fun _ x => x.toList == v.toList) xs <;> rfl
theorem p_Contains_z (xs : List ByteArray) (v : ByteArray) (hl : xs.length ≤ 1048576) : M_slices_Contains_Lstring_string xs v = some (xs.any fun x => x.toList == v.toList) := by
  unfold M_slices_Contains_Lstring_string M_slices_Index_Lstring_string
  rw [iter_findI (f := M_slices_Index_Lstring_stringL1 xs v) xs (fun _ x => x.toList == v.toList) (fun i _ => (i : Int)) () (fun i x hx _ => by
    have hlt := (List.getElem?_eq_some_iff.1 hx).1
    have h1 : decide ((i : Int) < xs.length) = true := by simp [hlt]
    simp only [M_slices_Index_Lstring_stringL1, h1, cond_true, geti_nat, hx, Option.bind_some]
    rw [w64_eq (by omega) (by omega), show (v.toList == x.toList) = (x.toList == v.toList) from Bool.beq_comm ..]
    cases x.toList == v.toList <;> rfl) (by simp [M_slices_Index_Lstring_stringL1]) (by omega)]
  cases e : findI (fun _ x => x.toList == v.toList) xs with
  | none =>
    have := findI_none.1 e
    have h : (xs.any fun x => x.toList == v.toList) = false := by
      rw [← anyI_any (fun x : ByteArray => x.toList == v.toList), anyI_false]; exact this
    rw [h]; rfl
  | some q =>
    obtain ⟨i, x⟩ := q
    obtain ⟨h1, h2, _⟩ := findI_some.1 e
    have h : (xs.any fun x => x.toList == v.toList) = true := List.any_eq_true.2 ⟨x, List.mem_of_getElem? h1, h2⟩
    rw [h]; simp

/-! ### fibers in order -/
def cmpI (x y : Int) : Int := if x < y then -1 else if y < x then 1 else 0
theorem p_cmp (x y : Int) : M_cmp_Compare_int x y = some (cmpI x y) := by
  unfold M_cmp_Compare_int M_cmp_isNaN_int cmpI
  by_cases h : x < y
  · simp [h]
  · by_cases h2 : y < x <;> simp [h, h2]
def cmpF (f g : TFiber) : Int := if f.A ≠ g.A then cmpI f.A g.A else if f.B ≠ g.B then cmpI f.B g.B else if f.Length ≠ g.Length then cmpI f.Length g.Length else cmpI f.Risk g.Risk
theorem cmpI_zero {x y : Int} : cmpI x y = 0 ↔ x = y := by
  unfold cmpI
  split
  · simp; omega
  · split
    · simp; omega
    · simp; omega
theorem p_compareFibers (f g : TFiber) : M_impl_compareFibers f g = some (cmpF f g) := by
  unfold M_impl_compareFibers
  simp only [p_cmp, Option.bind_some, bnd]
  unfold M_cmp_Or_int
  have key := iter_findI (f := M_cmp_Or_intL1 [cmpI f.A g.A, cmpI f.B g.B, cmpI f.Length g.Length, cmpI f.Risk g.Risk]) [cmpI f.A g.A, cmpI f.B g.B, cmpI f.Length g.Length, cmpI f.Risk g.Risk] (fun _ x => x != 0) (fun _ x => x) () (fun i x hx _ => by
    have hlt := (List.getElem?_eq_some_iff.1 hx).1
    have h1 : decide ((i : Int) < ([cmpI f.A g.A, cmpI f.B g.B, cmpI f.Length g.Length, cmpI f.Risk g.Risk].length : Nat)) = true := decide_eq_true (by omega)
    simp only [List.length_cons, List.length_nil] at hlt
    simp only [M_cmp_Or_intL1, h1, cond_true, geti_nat, hx, Option.bind_some]
    rw [w64_eq (by omega) (by omega)]
    cases x != 0 <;> rfl) (by simp [M_cmp_Or_intL1]) (by simp)
  rw [key]
  unfold cmpF findI
  simp only [List.zipIdx_cons, List.zipIdx_nil, List.find?_cons, List.find?_nil]
  by_cases h1 : f.A = g.A
  · rw [cmpI_zero.2 h1]
    by_cases h2 : f.B = g.B
    · rw [cmpI_zero.2 h2]
      by_cases h3 : f.Length = g.Length
      · rw [cmpI_zero.2 h3]
        by_cases h4 : f.Risk = g.Risk
        · simp [h1, h2, h3, h4, cmpI_zero.2]
        · have : (cmpI f.Risk g.Risk != 0) = true := bne_iff_ne.2 fun e => h4 (cmpI_zero.1 e)
          simp [h1, h2, h3, this]
      · have : (cmpI f.Length g.Length != 0) = true := bne_iff_ne.2 fun e => h3 (cmpI_zero.1 e)
        simp [h1, h2, h3, this]
    · have : (cmpI f.B g.B != 0) = true := bne_iff_ne.2 fun e => h2 (cmpI_zero.1 e)
      simp [h1, h2, this]
  · have : (cmpI f.A g.A != 0) = true := bne_iff_ne.2 fun e => h1 (cmpI_zero.1 e)
    simp [h1, this]
end Vs

namespace Vs
open Go
theorem slT_nat {α : Type} (xs : List α) (i : Nat) (h : i ≤ xs.length) : slT xs (i : Int) = some (xs.take i) := by
  unfold slT
  rw [if_pos ⟨by omega, by simpa using h⟩]; simp
theorem z_net {n : TNetwork} (h : z_Network n ≤ 1048576) : n.Nodes.length ≤ 1048576 ∧ n.Fibers.length ≤ 1048576 ∧ ∀ x ∈ n.Nodes, x.size ≤ 1048576 := by
  unfold z_Network z_StringS z_FiberS at h
  refine ⟨by omega, by omega, fun x hx => ?_⟩
  obtain ⟨i, hi, rfl⟩ := List.getElem_of_mem hx
  have : n.Nodes[i].size ≤ (n.Nodes.map fun x : ByteArray => x.size).sum := sum_ge (fun x : ByteArray => x.size) (xs := n.Nodes) (i := i) (x := n.Nodes[i]) (by simp [hi])
  omega
def nodeBad (n : TNetwork) (i : Nat) (x : ByteArray) : Bool := !nameB x || (n.Nodes.take i).any fun y => y.toList == x.toList
def fib1 (m : Nat) (f : TFiber) : Bool := decide (f.A < 0) || decide (f.B ≤ f.A) || decide ((m : Int) ≤ f.B) || !wi f.Length 1 5000 || !wi f.Risk 0 9
def fibBad (n : TNetwork) (i : Nat) (f : TFiber) : Bool := fib1 n.Nodes.length f || (decide (0 < i) && match n.Fibers[i - 1]? with | some g => decide (0 < cmpF g f) | none => false)
def netOk (n : TNetwork) : Bool := !anyI (nodeBad n) n.Nodes && !anyI (fibBad n) n.Fibers && wi n.Nodes.length 2 8 && decide (n.Fibers.length ≤ 14)

theorem p_IsValidNetwork (n : TNetwork) (hz : z_Network n ≤ 1048576) : M_impl_IsValidNetwork n = some (netOk n) := by
  obtain ⟨h1, h2, h3⟩ := z_net hz
  unfold M_impl_IsValidNetwork netOk
  rw [iter_anyI (f := M_impl_IsValidNetworkL1 n) n.Nodes (nodeBad n) (.inr false) (.inl ()) (fun i x hx _ => by
    have hlt := (List.getElem?_eq_some_iff.1 hx).1
    have e1 : decide ((i : Int) < n.Nodes.length) = true := by simp [hlt]
    simp only [M_impl_IsValidNetworkL1, e1, cond_true, geti_nat, hx, Option.bind_some, p_isName x (h3 x (List.mem_of_getElem? hx)), slT_nat n.Nodes i (Nat.le_of_lt hlt), p_Contains_z (n.Nodes.take i) x (by simp; omega), nodeBad]
    rw [w64_eq (by omega) (by omega)]
    rcases bt (nameB x) with e | e <;> rcases bt ((n.Nodes.take i).any (fun y => y.toList == x.toList)) with e' | e' <;> simp only [e, e'] <;> rfl) (by simp [M_impl_IsValidNetworkL1]) (by omega)]
  rcases bt (anyI (nodeBad n) n.Nodes) with hN | hN
  · simp [hN]
  · simp only [hN, Bool.false_eq_true, if_false, Option.bind_some, Bool.not_false, Bool.true_and]
    rw [iter_anyI (f := M_impl_IsValidNetworkL2 n) n.Fibers (fibBad n) (.inr false) (.inl ()) (fun i x hx _ => by
      have hlt := (List.getElem?_eq_some_iff.1 hx).1
      have e1 : decide ((i : Int) < n.Fibers.length) = true := by simp [hlt]
      simp only [M_impl_IsValidNetworkL2, e1, cond_true, geti_nat, hx, Option.bind_some, p_within]
      rw [w64_eq (n := (i : Int) + 1) (by omega) (by omega)]
      unfold fibBad fib1
      cases decide (x.A < 0)
      · cases decide (x.B ≤ x.A)
        · cases decide ((n.Nodes.length : Int) ≤ x.B)
          · cases wi x.Length 1 5000
            · rfl
            · cases wi x.Risk 0 9
              · rfl
              · by_cases hi : 0 < i
                · have hi' : decide ((0 : Int) < (i : Int)) = true := by simp [hi]
                  have hp : n.Fibers[i - 1]? = some n.Fibers[i - 1] := List.getElem?_eq_getElem (by omega)
                  have hw : IntKind.wrap .i64 ((i : Int) - 1) = ((i - 1 : Nat) : Int) := by rw [w64_eq (by omega) (by omega)]; omega
                  simp only [hi', cond_true, cond_false, Bool.not_true, hw, geti_nat, hp, Option.bind_some, p_compareFibers, hi, decide_true, Bool.true_and, Bool.false_or]
                  cases decide (0 < cmpF n.Fibers[i - 1] x) <;> rfl
                · have hi' : decide ((0 : Int) < (i : Int)) = false := by simp; omega
                  simp [hi', hi]
          · rfl
        · rfl
      · rfl) (by simp [M_impl_IsValidNetworkL2]) (by omega)]
    rcases bt (anyI (fibBad n) n.Fibers) with hF | hF
    · simp [hF]
    · simp only [hF, Bool.false_eq_true, if_false, Option.bind_some, Bool.not_false, Bool.true_and, p_within]
      have e : decide ((n.Fibers.length : Int) ≤ 14) = decide (n.Fibers.length ≤ 14) := decide_eq_decide.2 (by omega)
      rw [e]
      cases wi n.Nodes.length 2 8 <;> rfl

theorem find_dup (n : TNetwork) (i : Nat) (x : ByteArray) (hx : n.Nodes[i]? = some x) :
    (fidx x n.Nodes != (i : Int)) = (n.Nodes.take i).any fun y => y.toList == x.toList := by
  unfold fidx
  cases e : idxZ x n.Nodes with
  | none =>
    have := findI_none.1 e i x hx
    simp at this
  | some q =>
    obtain ⟨j, y⟩ := q
    obtain ⟨h1, h2, h3⟩ := findI_some.1 e
    simp only
    by_cases hj : j = i
    · subst hj
      have : ((n.Nodes.take j).any fun y => y.toList == x.toList) = false := by
        rw [List.any_eq_false]
        intro z hz
        obtain ⟨k, hk, rfl⟩ := List.getElem_of_mem hz
        simp only [List.length_take] at hk
        have := h3 k (n.Nodes.take j)[k] (by omega) (by rw [List.getElem_take]; exact List.getElem?_eq_getElem (by omega))
        rw [this]; simp
      rw [this]; simp
    · have hji : j < i := by
        rcases Nat.lt_trichotomy j i with h | h | h
        · exact h
        · exact (hj h).elim
        · have := h3 i x h hx
          simp at this
      have : ((n.Nodes.take i).any fun y => y.toList == x.toList) = true := List.any_eq_true.2 ⟨y, by
        have : (n.Nodes.take i)[j]? = some y := by rw [List.getElem?_take, if_pos hji]; exact h1
        exact List.mem_of_getElem? this, h2⟩
      rw [this]
      simp; omega

theorem p_l2Fiber (f : TFiber) (m : Nat) (hm : m ≤ 8) (hm2 : 2 ≤ m) : M_spec_l2Fiber f (m : Int) = some (!fib1 m f) := by
  unfold M_spec_l2Fiber fib1
  simp only [p_l1In, Option.bind_some]
  rw [w64_eq (n := (m : Int) - 1) (by omega) (by omega)]
  rcases bt (wi f.A 0 ((m : Int) - 1)) with h1 | h1
  · have h2 := wi_iff.1 h1
    rw [w64_eq (n := f.A + 1) (by omega) (by omega)]
    rcases bt (wi f.B (f.A + 1) ((m : Int) - 1)) with h3 | h3
    · have h4 := wi_iff.1 h3
      have a1 : decide (f.A < 0) = false := by simp; omega
      have a2 : decide (f.B ≤ f.A) = false := by simp; omega
      have a3 : decide ((m : Int) ≤ f.B) = false := by simp; omega
      simp only [h1, h3, a1, a2, a3, cond_true, Bool.false_or]
      cases wi f.Length 1 5000 <;> cases wi f.Risk 0 9 <;> rfl
    · have h4 := wi_false.1 h3
      simp only [h1, h3, cond_true, cond_false]
      by_cases a2 : f.B ≤ f.A
      · simp [a2]
      · have a3 : (m : Int) ≤ f.B := by omega
        simp [a3]
  · have h2 := wi_false.1 h1
    simp only [h1, cond_false]
    by_cases a1 : f.A < 0
    · simp [a1]
    · by_cases a2 : f.B ≤ f.A
      · simp [a2]
      · have a3 : (m : Int) ≤ f.B := by omega
        simp [a3]

structure FibOk (m : Int) (f : TFiber) : Prop where
  a0 : 0 ≤ f.A
  ab : f.A < f.B
  bm : f.B < m
  l1 : 1 ≤ f.Length
  l2 : f.Length ≤ 5000
  r0 : 0 ≤ f.Risk
  r9 : f.Risk ≤ 9
theorem fib1_ok {m : Nat} {f : TFiber} (h : fib1 m f = false) : FibOk m f := by
  unfold fib1 at h
  simp only [Bool.or_eq_false_iff, decide_eq_false_iff_not, Bool.not_eq_false', wi_iff] at h
  obtain ⟨⟨⟨⟨h1, h2⟩, h3⟩, h4, h5⟩, h6, h7⟩ := h
  exact ⟨by omega, by omega, by omega, h4, h5, h6, h7⟩

theorem p_before (f g : TFiber) (m : Nat) (hm : m ≤ 8) (hf : FibOk m f) (hg : FibOk m g) : ∃ r, M_spec_l2Before f g = some r ∧ decide (0 < r) = decide (0 < cmpF f g) := by
  obtain ⟨a1, a2, a3, a4, a5, a6, a7⟩ := hf
  obtain ⟨b1, b2, b3, b4, b5, b6, b7⟩ := hg
  have sgn : ∀ x y : Int, decide (0 < x - y) = decide (0 < cmpI x y) := by
    intro x y
    unfold cmpI
    by_cases h : x < y
    · rw [if_pos h]; exact decide_eq_decide.2 (by omega)
    · rw [if_neg h]
      by_cases h2 : y < x
      · rw [if_pos h2]; exact decide_eq_decide.2 (by omega)
      · rw [if_neg h2]; exact decide_eq_decide.2 (by omega)
  unfold M_spec_l2Before cmpF
  rw [w64_eq (n := f.A - g.A) (by omega) (by omega), w64_eq (n := f.B - g.B) (by omega) (by omega), w64_eq (n := f.Length - g.Length) (by omega) (by omega), w64_eq (n := f.Risk - g.Risk) (by omega) (by omega)]
  by_cases h1 : f.A = g.A
  · have e1 : (f.A != g.A) = false := by rw [h1]; simp
    by_cases h2 : f.B = g.B
    · have e2 : (f.B != g.B) = false := by rw [h2]; simp
      by_cases h3 : f.Length = g.Length
      · have e3 : (f.Length != g.Length) = false := by rw [h3]; simp
        exact ⟨f.Risk - g.Risk, by simp only [e1, e2, e3, cond_false], by simp only [h1, h2, h3, ne_eq, not_true, if_false]; exact sgn _ _⟩
      · have e3 : (f.Length != g.Length) = true := bne_iff_ne.2 h3
        exact ⟨f.Length - g.Length, by simp only [e1, e2, e3, cond_false, cond_true], by simp only [h1, h2, h3, ne_eq, not_true, not_false_eq_true, if_false, if_true]; exact sgn _ _⟩
    · have e2 : (f.B != g.B) = true := bne_iff_ne.2 h2
      exact ⟨f.B - g.B, by simp only [e1, e2, cond_false, cond_true], by simp only [h1, h2, ne_eq, not_true, not_false_eq_true, if_false, if_true]; exact sgn _ _⟩
  · have e1 : (f.A != g.A) = true := bne_iff_ne.2 h1
    exact ⟨f.A - g.A, by simp only [e1, cond_true], by simp only [h1, ne_eq, not_false_eq_true, if_true]; exact sgn _ _⟩

theorem p_l2Good (n : TNetwork) (hz : z_Network n ≤ 1048576) : M_spec_l2Good n = some (netOk n) := by
  obtain ⟨z1, z2, z3⟩ := z_net hz
  unfold M_spec_l2Good netOk
  simp only [p_l1In, Option.bind_some]
  rcases bt (wi n.Nodes.length 2 8) with hw | hw
  · have hw2 := wi_iff.1 hw
    have e : decide (14 < (n.Fibers.length : Int)) = !decide (n.Fibers.length ≤ 14) := by
      rw [← decide_not]; exact decide_eq_decide.2 (by omega)
    simp only [hw, e, Bool.not_true, cond_false, Option.bind_some, Bool.and_true]
    rcases bt (decide (n.Fibers.length ≤ 14)) with h14 | h14
    · simp only [h14, Bool.not_true, cond_false, Bool.and_true]
      rw [iter_anyI (f := M_spec_l2GoodL1 n) n.Nodes (nodeBad n) (.inr false) (.inl ()) (fun i x hx _ => by
        have hlt := (List.getElem?_eq_some_iff.1 hx).1
        have e1 : decide ((i : Int) < n.Nodes.length) = true := by simp [hlt]
        simp only [M_spec_l2GoodL1, e1, cond_true, geti_nat, hx, Option.bind_some, p_l2Name x (z3 x (List.mem_of_getElem? hx)), p_l2Find n.Nodes x z1, find_dup n i x hx, nodeBad]
        rw [w64_eq (by omega) (by omega)]
        rcases bt (nameB x) with e | e <;> rcases bt ((n.Nodes.take i).any (fun y => y.toList == x.toList)) with e' | e' <;> simp only [e, e'] <;> rfl) (by simp [M_spec_l2GoodL1]) (by omega)]
      rcases bt (anyI (nodeBad n) n.Nodes) with hN | hN
      · simp [hN]
      · simp only [hN, Bool.false_eq_true, if_false, Option.bind_some, Bool.not_false, Bool.true_and]
        rw [iter_anyI (f := M_spec_l2GoodL2 n) n.Fibers (fibBad n) (.inr false) (.inl ()) (fun i x hx hprev => by
          have hlt := (List.getElem?_eq_some_iff.1 hx).1
          have e1 : decide ((i : Int) < n.Fibers.length) = true := by simp [hlt]
          simp only [M_spec_l2GoodL2, e1, cond_true, geti_nat, hx, Option.bind_some, p_l2Fiber x n.Nodes.length (by omega) (by omega), Bool.not_not]
          rw [w64_eq (n := (i : Int) + 1) (by omega) (by omega)]
          unfold fibBad
          rcases bt (fib1 n.Nodes.length x) with h1 | h1
          · simp [h1]
          · simp only [h1, cond_false, Bool.false_or]
            by_cases hi : 0 < i
            · have hi' : decide ((0 : Int) < (i : Int)) = true := by simp [hi]
              have hp : n.Fibers[i - 1]? = some n.Fibers[i - 1] := List.getElem?_eq_getElem (by omega)
              have hw : IntKind.wrap .i64 ((i : Int) - 1) = ((i - 1 : Nat) : Int) := by rw [w64_eq (by omega) (by omega)]; omega
              have hb := hprev (i - 1) n.Fibers[i - 1] (by omega) hp
              unfold fibBad at hb
              simp only [Bool.or_eq_false_iff] at hb
              obtain ⟨r, r1, r2⟩ := p_before n.Fibers[i - 1] x n.Nodes.length (by omega) (fib1_ok hb.1) (fib1_ok h1)
              simp only [hi', cond_true, hw, geti_nat, hp, Option.bind_some, r1, r2, hi, decide_true, Bool.true_and]
              cases decide (0 < cmpF n.Fibers[i - 1] x) <;> rfl
            · have hi' : decide ((0 : Int) < (i : Int)) = false := by simp; omega
              simp [hi', hi]) (by simp [M_spec_l2GoodL2]) (by omega)]
        cases anyI (fibBad n) n.Fibers <;> rfl
    · simp [h14]
  · simp [hw]
end Vs

namespace Vs
open Go
/-! ### risk groups -/
theorem netOk_b {n : TNetwork} (h : netOk n = true) : 2 ≤ n.Nodes.length ∧ n.Nodes.length ≤ 8 ∧ n.Fibers.length ≤ 14 := by
  unfold netOk at h
  simp only [Bool.and_eq_true, decide_eq_true_eq, wi_iff] at h
  omega
theorem netOk_fib {n : TNetwork} (h : netOk n = true) {i : Nat} {f : TFiber} (hf : n.Fibers[i]? = some f) : FibOk n.Nodes.length f := by
  unfold netOk at h
  simp only [Bool.and_eq_true, Bool.not_eq_true'] at h
  have := anyI_false.1 h.1.1.2 i f hf
  unfold fibBad at this
  simp only [Bool.or_eq_false_iff] at this
  exact fib1_ok this.1
/-- the indices from i on of the fibers with a risk -/
def idxs (r : Int) : Nat → List TFiber → List Int
  | _, [] => []
  | i, f :: fs => if f.Risk = r then (i : Int) :: idxs r (i + 1) fs else idxs r (i + 1) fs
theorem idxs_cons (r : Int) (i : Nat) (f : TFiber) (fs : List TFiber) : idxs r i (f :: fs) = if f.Risk = r then (i : Int) :: idxs r (i + 1) fs else idxs r (i + 1) fs := rfl
theorem idxs_len (r : Int) : ∀ (fs : List TFiber) (i : Nat), (idxs r i fs).length ≤ fs.length
  | [], i => by simp [idxs]
  | f :: fs, i => by
    have := idxs_len r fs (i + 1)
    rw [idxs_cons]; split <;> simp <;> omega
theorem idxs_mem (r : Int) : ∀ (fs : List TFiber) (i : Nat) (x : Int), x ∈ idxs r i fs ↔ ∃ j f, fs[j]? = some f ∧ f.Risk = r ∧ x = ((i + j : Nat) : Int)
  | [], i, x => by simp [idxs]
  | f :: fs, i, x => by
    have ih := idxs_mem r fs (i + 1) x
    have step : (∃ j g, (f :: fs)[j]? = some g ∧ g.Risk = r ∧ x = ((i + j : Nat) : Int)) ↔ (f.Risk = r ∧ x = (i : Int)) ∨ ∃ j g, fs[j]? = some g ∧ g.Risk = r ∧ x = ((i + 1 + j : Nat) : Int) := by
      constructor
      · rintro ⟨j, g, h1, h2, h3⟩
        cases j with
        | zero => simp at h1; subst h1; exact .inl ⟨h2, h3⟩
        | succ j => exact .inr ⟨j, g, by simpa using h1, h2, by rw [h3]; congr 1; omega⟩
      · rintro (⟨h1, h2⟩ | ⟨j, g, h1, h2, h3⟩)
        · exact ⟨0, f, rfl, h1, h2⟩
        · exact ⟨j + 1, g, by simpa using h1, h2, by rw [h3]; congr 1; omega⟩
    rw [step, ← ih]
    rw [idxs_cons]
    split
    · rename_i h; simp [h]
    · rename_i h; simp [h]
theorem idxs_fold (r : Int) : ∀ (fs : List TFiber) (i : Nat) (acc : List Int), walkL (fun i (f : TFiber) (a : List Int) => (.inl (if f.Risk = r then a ++ [(i : Int)] else a) : List Int ⊕ List Int)) (fun a => a) i fs acc = acc ++ idxs r i fs
  | [], i, acc => by simp [walkL, idxs]
  | f :: fs, i, acc => by
    simp only [walkL]
    rw [idxs_fold r fs (i + 1)]
    rw [idxs_cons]
    split <;> simp
def risks : List Int := [1, 2, 3, 4, 5, 6, 7, 8, 9]
def groupsP (n : TNetwork) : List (List Int) := ((risks.map fun r => idxs r 0 n.Fibers).filter fun l => decide (0 < l.length)) ++ (idxs 0 0 n.Fibers).map fun i => [i]
theorem groupsP_len (n : TNetwork) (h : n.Fibers.length ≤ 14) : (groupsP n).length ≤ 23 := by
  have := idxs_len 0 n.Fibers 0
  have h2 := List.length_filter_le (fun l : List Int => decide (0 < l.length)) (risks.map fun r => idxs r 0 n.Fibers)
  have h3 : (risks.map fun r => idxs r 0 n.Fibers).length = 9 := rfl
  unfold groupsP
  simp only [List.length_append, List.length_map]
  omega

theorem idx_loop {f : Int × List Int → Option ((Int × List Int) ⊕ List Int)} (fs : List TFiber) (r : Int) (hl : fs.length ≤ 1048576)
    (h1 : ∀ (i : Nat) x (a : List Int), fs[i]? = some x → a.length ≤ i → f ((i : Int), a) = some (.inl (((i + 1 : Nat) : Int), if x.Risk = r then a ++ [(i : Int)] else a)))
    (h2 : ∀ a, f ((fs.length : Int), a) = some (.inr a)) : iter f N0 (0, []) = some (idxs r 0 fs) := by
  have := iter_list (f := f) fs (fun i (a : List Int) => ((i : Int), a)) (fun i x a => .inl (if x.Risk = r then a ++ [(i : Int)] else a)) (fun a => a) (fun i a => a.length ≤ i) (fun i a x hx hI => by
    refine .inl ⟨_, rfl, ?_, h1 i x a hx hI⟩
    split <;> first | omega | (simp only [List.length_append, List.length_cons, List.length_nil]; omega)) (fun a _ => h2 a) [] (by simp) (by omega)
  rw [show iter f N0 (0, []) = _ from this, idxs_fold]; rfl
theorem app_loop {f : Int × List (List Int) → Option ((Int × List (List Int)) ⊕ List (List Int))} (fs : List TFiber) (G : List (List Int)) (hl : fs.length ≤ 1048576) (hG : G.length ≤ 100)
    (h1 : ∀ (i : Nat) x (a : List (List Int)), fs[i]? = some x → a.length ≤ 100 + i → f ((i : Int), a) = some (.inl (((i + 1 : Nat) : Int), if x.Risk = 0 then a ++ [[(i : Int)]] else a)))
    (h2 : ∀ a, f ((fs.length : Int), a) = some (.inr a)) : iter f N0 (0, G) = some (G ++ (idxs 0 0 fs).map fun i => [i]) := by
  have := iter_list (f := f) fs (fun i (a : List (List Int)) => ((i : Int), a)) (fun i x a => .inl (if x.Risk = 0 then a ++ [[(i : Int)]] else a)) (fun a => a) (fun i a => a.length ≤ 100 + i) (fun i a x hx hI => by
    refine .inl ⟨_, rfl, ?_, h1 i x a hx hI⟩
    split <;> first | omega | (simp only [List.length_append, List.length_cons, List.length_nil]; omega)) (fun a _ => h2 a) G (by omega) (by omega)
  rw [show iter f N0 (0, G) = _ from this]
  have gen : ∀ (fs : List TFiber) (i : Nat) (acc : List (List Int)), walkL (fun i (f : TFiber) (a : List (List Int)) => (.inl (if f.Risk = 0 then a ++ [[(i : Int)]] else a) : List (List Int) ⊕ List (List Int))) (fun a => a) i fs acc = acc ++ (idxs 0 i fs).map fun i => [i] := by
    intro fs
    induction fs with
    | nil => intro i acc; simp [walkL, idxs]
    | cons f fs ih =>
      intro i acc
      simp only [walkL]
      rw [ih (i + 1)]
      rw [idxs_cons]
      split <;> simp
  rw [gen]

/-- the loop over the risks -/
theorem risk_loop {f : Int × List (List Int) → Option ((Int × List (List Int)) ⊕ List (List Int))} (fs : List TFiber)
    (h1 : ∀ (r : Int) (a : List (List Int)), 1 ≤ r → r ≤ 9 → a.length ≤ 10 → f (r, a) = some (.inl (r + 1, if 0 < (idxs r 0 fs).length then a ++ [idxs r 0 fs] else a)))
    (h2 : ∀ a, f (10, a) = some (.inr a)) : iter f N0 (1, []) = some ((risks.map fun r => idxs r 0 fs).filter fun l => decide (0 < l.length)) := by
  have := iter_list (f := f) risks (fun i (a : List (List Int)) => ((i : Int) + 1, a)) (fun i r a => .inl (if 0 < (idxs r 0 fs).length then a ++ [idxs r 0 fs] else a)) (fun a => a) (fun i a => a.length ≤ i) (fun i a r hr hI => by
    have hi : i < 9 := by have := (List.getElem?_eq_some_iff.1 hr).1; simpa [risks] using this
    have e : (i : Int) + 1 = r := by
      rcases i with _ | _ | _ | _ | _ | _ | _ | _ | _ | i <;> first | (simp [risks] at hr; omega) | omega
    refine .inl ⟨_, rfl, ?_, ?_⟩
    · split <;> first | omega | (simp only [List.length_append, List.length_cons, List.length_nil]; omega)
    · rw [e, h1 r a (by omega) (by omega) (by omega)]
      have : ((i + 1 : Nat) : Int) + 1 = r + 1 := by omega
      rw [this]) (fun a _ => by have := h2 a; simpa [risks] using this) [] (by simp) (by simp [risks])
  rw [show iter f N0 (1, []) = _ from this]
  have gen : ∀ (rs : List Int) (i : Nat) (acc : List (List Int)), walkL (fun (_ : Nat) (r : Int) (a : List (List Int)) => (.inl (if 0 < (idxs r 0 fs).length then a ++ [idxs r 0 fs] else a) : List (List Int) ⊕ List (List Int))) (fun a => a) i rs acc =
      acc ++ (rs.map fun r => idxs r 0 fs).filter fun l => decide (0 < l.length) := by
    intro rs
    induction rs with
    | nil => intro i acc; simp [walkL]
    | cons r rs ih =>
      intro i acc
      simp only [walkL]
      rw [ih (i + 1), List.map_cons, List.filter_cons]
      by_cases h : 0 < (idxs r 0 fs).length
      · simp [h]
      · simp [h]
  rw [gen]; rfl

theorem p_groups (n : TNetwork) (h : n.Fibers.length ≤ 14) : M_impl_groups n = some (groupsP n) := by
  unfold M_impl_groups
  rw [risk_loop (f := M_impl_groupsL1 n) n.Fibers (fun r a hr1 hr9 ha => by
    have e1 : decide (r ≤ 9) = true := by simp [hr9]
    simp only [M_impl_groupsL1, e1, cond_true]
    rw [idx_loop (f := M_impl_groupsL2 n (r, a)) n.Fibers r (by omega) (fun i x b hx hb => by
      have hlt := (List.getElem?_eq_some_iff.1 hx).1
      have e1 : decide ((i : Int) < n.Fibers.length) = true := by simp [hlt]
      simp only [M_impl_groupsL2, e1, cond_true, geti_nat, hx, Option.bind_some, bnd]
      rw [grd_t (by omega), w64_eq (by omega) (by omega)]
      by_cases e : x.Risk = r
      · simp [e]
      · simp [e, cond_ite]) (fun a => by simp [M_impl_groupsL2])]
    simp only [Option.bind_some, bnd]
    rw [grd_t (by omega), w64_eq (by omega) (by omega)]
    by_cases e : 0 < (idxs r 0 n.Fibers).length
    · have e' : decide ((0 : Int) < ((idxs r 0 n.Fibers).length : Int)) = true := by simpa using e
      simp only [e', cond_true, if_pos e, Option.bind_some]
    · have e' : decide ((0 : Int) < ((idxs r 0 n.Fibers).length : Int)) = false := by simpa using e
      simp only [e', cond_false, if_neg e]) (fun a => by simp [M_impl_groupsL1])]
  simp only [Option.bind_some]
  have hl := List.length_filter_le (fun l : List Int => decide (0 < l.length)) (risks.map fun r => idxs r 0 n.Fibers)
  have hl9 : (risks.map fun r => idxs r 0 n.Fibers).length = 9 := rfl
  rw [app_loop (f := M_impl_groupsL3 n) n.Fibers _ (by omega) (by omega) (fun i x a hx ha => by
    have hlt := (List.getElem?_eq_some_iff.1 hx).1
    have e1 : decide ((i : Int) < n.Fibers.length) = true := by simp [hlt]
    simp only [M_impl_groupsL3, e1, cond_true, geti_nat, hx, Option.bind_some, bnd]
    rw [grd_t (by omega), w64_eq (by omega) (by omega)]
    by_cases e : x.Risk = 0
    · simp [e]
    · simp [e, cond_ite]) (fun a => by simp [M_impl_groupsL3])]
  rfl

theorem p_l2Group (n : TNetwork) (h : n.Fibers.length ≤ 14) (i : Nat) (f : TFiber) (hf : n.Fibers[i]? = some f) (hr : f.Risk ≠ 0) : M_spec_l2Group n (i : Int) = some (idxs f.Risk 0 n.Fibers) := by
  unfold M_spec_l2Group
  have e : (f.Risk == 0) = false := by simpa using hr
  simp only [geti_nat, hf, Option.bind_some, e, cond_false]
  rw [idx_loop (f := M_spec_l2GroupL1 n (i : Int)) n.Fibers f.Risk (by omega) (fun j x b hx hb => by
    have hlt := (List.getElem?_eq_some_iff.1 hx).1
    have e1 : decide ((j : Int) < n.Fibers.length) = true := by simp [hlt]
    simp only [M_spec_l2GroupL1, e1, cond_true, geti_nat, hx, hf, Option.bind_some, bnd]
    rw [grd_t (by omega), w64_eq (by omega) (by omega)]
    by_cases e : x.Risk = f.Risk
    · simp [e]
    · simp [e, cond_ite]) (fun a => by simp [M_spec_l2GroupL1])]
  rfl

theorem idxs_pos {r : Int} {fs : List TFiber} : 0 < (idxs r 0 fs).length ↔ ∃ (j : Nat) (f : TFiber), fs[j]? = some f ∧ f.Risk = r := by
  constructor
  · intro h
    obtain ⟨x, hx⟩ := List.exists_mem_of_length_pos h
    obtain ⟨j, f, h1, h2, _⟩ := (idxs_mem r fs 0 x).1 hx
    exact ⟨j, f, h1, h2⟩
  · rintro ⟨j, f, h1, h2⟩
    exact List.length_pos_of_mem ((idxs_mem r fs 0 _).2 ⟨j, f, h1, h2, rfl⟩)

theorem p_l2Groups (n : TNetwork) (h : n.Fibers.length ≤ 14) : M_spec_l2Groups n = some (groupsP n) := by
  unfold M_spec_l2Groups
  rw [risk_loop (f := M_spec_l2GroupsL1 n) n.Fibers (fun r a hr1 hr9 ha => by
    have e1 : decide (r ≤ 9) = true := by simp [hr9]
    simp only [M_spec_l2GroupsL1, e1, cond_true]
    have key : iter (M_spec_l2GroupsL2 n (r, a)) N0 0 = some (if 0 < (idxs r 0 n.Fibers).length then a ++ [idxs r 0 n.Fibers] else a) := by
      rw [iter_anyI (f := M_spec_l2GroupsL2 n (r, a)) n.Fibers (fun _ f => decide (f.Risk = r)) (a ++ [idxs r 0 n.Fibers]) a (fun i x hx _ => by
        have hlt := (List.getElem?_eq_some_iff.1 hx).1
        have e1 : decide ((i : Int) < n.Fibers.length) = true := by simp [hlt]
        simp only [M_spec_l2GroupsL2, e1, cond_true, geti_nat, hx, Option.bind_some, bnd]
        by_cases e : x.Risk = r
        · have e0 : x.Risk ≠ 0 := by omega
          have e2 : (x.Risk == r) = true := by simp [e]
          rw [p_l2Group n h i x hx e0]
          simp only [e2, cond_true, Option.bind_some]
          rw [grd_t (by omega)]
          simp [e]
        · have e2 : (x.Risk == r) = false := by simp [e]
          simp only [e2, cond_false]
          rw [w64_eq (by omega) (by omega)]
          simp [e]) (by simp [M_spec_l2GroupsL2]) (by omega)]
      by_cases hp : 0 < (idxs r 0 n.Fibers).length
      · rw [if_pos hp]
        obtain ⟨j, f, h1, h2⟩ := idxs_pos.1 hp
        have : anyI (fun _ (f : TFiber) => decide (f.Risk = r)) n.Fibers = true := anyI_iff.2 ⟨j, f, h1, by simp [h2]⟩
        rw [this]; rfl
      · rw [if_neg hp]
        have : anyI (fun _ (f : TFiber) => decide (f.Risk = r)) n.Fibers = false := anyI_false.2 fun i x hx => by
          simp only [decide_eq_false_iff_not]
          intro e; exact hp (idxs_pos.2 ⟨i, x, hx, e⟩)
        rw [this]; rfl
    rw [key]
    simp only [Option.bind_some]
    rw [w64_eq (by omega) (by omega)]) (fun a => by simp [M_spec_l2GroupsL1])]
  simp only [Option.bind_some]
  have hl := List.length_filter_le (fun l : List Int => decide (0 < l.length)) (risks.map fun r => idxs r 0 n.Fibers)
  have hl9 : (risks.map fun r => idxs r 0 n.Fibers).length = 9 := rfl
  rw [app_loop (f := M_spec_l2GroupsL3 n) n.Fibers _ (by omega) (by omega) (fun i x a hx ha => by
    have hlt := (List.getElem?_eq_some_iff.1 hx).1
    have e1 : decide ((i : Int) < n.Fibers.length) = true := by simp [hlt]
    simp only [M_spec_l2GroupsL3, e1, cond_true, geti_nat, hx, Option.bind_some, bnd]
    rw [grd_t (by omega), w64_eq (by omega) (by omega)]
    by_cases e : x.Risk = 0
    · simp [e]
    · simp [e, cond_ite]) (fun a => by simp [M_spec_l2GroupsL3])]
  rfl
end Vs

namespace Vs
open Go
theorem p_ContainsFunc_i (xs : List Int) (f : Int → Option Bool) (p : Int → Bool) (hf : ∀ x, f x = some (p x)) (hl : xs.length ≤ 1048576) : M_slices_ContainsFunc_Lint_int xs f = some (xs.any p) := by
  unfold M_slices_ContainsFunc_Lint_int M_slices_IndexFunc_Lint_int
  rw [iter_findI (f := M_slices_IndexFunc_Lint_intL1 xs f) xs (fun _ x => p x) (fun i _ => (i : Int)) () (fun i x hx _ => by
    have hlt := (List.getElem?_eq_some_iff.1 hx).1
    have h1 : decide ((i : Int) < xs.length) = true := by simp [hlt]
    simp only [M_slices_IndexFunc_Lint_intL1, h1, cond_true, geti_nat, hx, hf, Option.bind_some]
    rw [w64_eq (by omega) (by omega)]
    rcases bt (p x) with e | e <;> simp only [e] <;> rfl) (by simp [M_slices_IndexFunc_Lint_intL1]) (by omega)]
  rw [← anyI_any]
  cases e : findI (fun _ x => p x) xs with
  | none =>
    have := findI_none.1 e
    have h : anyI (fun _ x => p x) xs = false := anyI_false.2 this
    rw [h]; rfl
  | some q =>
    obtain ⟨i, x⟩ := q
    obtain ⟨h1, h2, _⟩ := findI_some.1 e
    have h : anyI (fun _ x => p x) xs = true := anyI_iff.2 ⟨i, x, h1, h2⟩
    rw [h]; simp
def outOk (n : TNetwork) (o : TOutage) : Bool := netOk n && wi o.Unit 2 20 && decide (o.Down.length = (groupsP n).length) && !o.Down.any fun d => !wi d 0 o.Unit
theorem beq_len {α β : Type} (a : List α) (b : List β) : ((a.length : Int) == (b.length : Int)) = decide (a.length = b.length) := by
  rw [Bool.eq_iff_iff]; simp; omega
theorem p_impl_Outage (n : TNetwork) (o : TOutage) (hz : z_Network n ≤ 1048576) (ho : o.Down.length ≤ 1048576) : M_impl_IsValidOutage n o = some (outOk n o) := by
  unfold M_impl_IsValidOutage outOk
  simp only [p_IsValidNetwork n hz, Option.bind_some, p_within]
  rcases bt (netOk n) with hn | hn
  · have hb := netOk_b hn
    simp only [hn, cond_true, p_groups n hb.2.2, Option.bind_some, beq_len, p_ContainsFunc_i o.Down (fun x0 => M_impl_IsValidOutage_c1 x0 o) (fun d => !wi d 0 o.Unit) (fun d => by unfold M_impl_IsValidOutage_c1; simp only [p_within, Option.bind_some]) ho]
    cases wi o.Unit 2 20 <;> cases decide (o.Down.length = (groupsP n).length) <;> simp
  · simp [hn]
theorem p_spec_Outage (n : TNetwork) (o : TOutage) (hz : z_Network n ≤ 1048576) (ho : o.Down.length ≤ 1048576) : M_spec_l16Good n o = some (outOk n o) := by
  unfold M_spec_l16Good outOk
  simp only [p_l2Good n hz, Option.bind_some, p_l1In]
  rcases bt (netOk n) with hn | hn
  · have hb := netOk_b hn
    simp only [hn, Bool.not_true, cond_false, p_l2Groups n hb.2.2, Option.bind_some, Bool.true_and]
    have e : ((o.Down.length : Int) != ((groupsP n).length : Int)) = !decide (o.Down.length = (groupsP n).length) := by rw [bne, beq_len]
    rw [e, iter_anyI (f := M_spec_l16GoodL1 o) o.Down (fun _ d => !wi d 0 o.Unit) (.inr false) (.inl ()) (fun i x hx _ => by
      have hlt := (List.getElem?_eq_some_iff.1 hx).1
      have h1 : decide ((i : Int) < o.Down.length) = true := by simp [hlt]
      simp only [M_spec_l16GoodL1, h1, cond_true, geti_nat, hx, p_l1In, Option.bind_some]
      rw [w64_eq (by omega) (by omega)]
      rcases bt (wi x 0 o.Unit) with e | e <;> simp only [e] <;> rfl) (by simp [M_spec_l16GoodL1]) (by omega), anyI_any]
    cases wi o.Unit 2 20 <;> cases decide (o.Down.length = (groupsP n).length) <;> cases (o.Down.any fun d => !wi d 0 o.Unit) <;> rfl
  · simp [hn]
end Vs

namespace Vs
open Go
theorem idxs_cons_len (r : Int) (i : Nat) (f : TFiber) (fs : List TFiber) : (idxs r i (f :: fs)).length = (if f.Risk = r then 1 else 0) + (idxs r (i + 1) fs).length := by
  rw [idxs_cons]; split <;> simp <;> omega
theorem one_risk (x : Int) : (if x = 1 then 1 else 0) + (if x = 2 then 1 else 0) + (if x = 3 then 1 else 0) + (if x = 4 then 1 else 0) + (if x = 5 then 1 else 0) + (if x = 6 then 1 else 0) + (if x = 7 then 1 else 0) + (if x = 8 then 1 else 0) + (if x = 9 then 1 else 0) + (if x = 0 then 1 else 0) ≤ (1 : Nat) := by
  by_cases h1 : x = 1; · subst h1; decide
  by_cases h2 : x = 2; · subst h2; decide
  by_cases h3 : x = 3; · subst h3; decide
  by_cases h4 : x = 4; · subst h4; decide
  by_cases h5 : x = 5; · subst h5; decide
  by_cases h6 : x = 6; · subst h6; decide
  by_cases h7 : x = 7; · subst h7; decide
  by_cases h8 : x = 8; · subst h8; decide
  by_cases h9 : x = 9; · subst h9; decide
  simp only [h1, h2, h3, h4, h5, h6, h7, h8, h9, if_false]
  split <;> omega
theorem idxs_total : ∀ (fs : List TFiber) (i : Nat), (idxs 1 i fs).length + (idxs 2 i fs).length + (idxs 3 i fs).length + (idxs 4 i fs).length + (idxs 5 i fs).length + (idxs 6 i fs).length + (idxs 7 i fs).length + (idxs 8 i fs).length + (idxs 9 i fs).length + (idxs 0 i fs).length ≤ fs.length
  | [], i => by simp [idxs]
  | f :: fs, i => by
    have h1 := idxs_total fs (i + 1)
    have h2 := one_risk f.Risk
    simp only [idxs_cons_len, List.length_cons]
    omega
theorem filter_pos_len : ∀ (ls : List (List Int)), (ls.filter fun l => decide (0 < l.length)).length ≤ (ls.map List.length).sum
  | [] => by simp
  | l :: ls => by
    have := filter_pos_len ls
    rw [List.filter_cons]
    simp only [List.map_cons, List.sum_cons]
    split
    · rename_i h; simp at h; simp; omega
    · omega
theorem groupsP_le (n : TNetwork) : (groupsP n).length ≤ n.Fibers.length := by
  have h1 := idxs_total n.Fibers 0
  have h2 := filter_pos_len (risks.map fun r => idxs r 0 n.Fibers)
  unfold groupsP
  simp only [List.length_append, List.length_map]
  simp only [risks, List.map_cons, List.map_nil, List.sum_cons, List.sum_nil] at h2
  simp only [risks, List.map_cons, List.map_nil]
  omega
theorem outOk_b {n : TNetwork} {o : TOutage} (h : outOk n o = true) : 2 ≤ o.Unit ∧ o.Unit ≤ 20 ∧ o.Down.length ≤ 14 ∧ ∀ d ∈ o.Down, 0 ≤ d ∧ d ≤ o.Unit := by
  unfold outOk at h
  simp only [Bool.and_eq_true, decide_eq_true_eq, wi_iff, Bool.not_eq_true', List.any_eq_false, Bool.not_eq_false] at h
  obtain ⟨⟨⟨h1, h2⟩, h3⟩, h4⟩ := h
  have := groupsP_le n
  have := (netOk_b h1).2.2
  refine ⟨h2.1, h2.2, by omega, fun d hd => ?_⟩
  have := h4 d hd
  simpa using this
/-! ### powers of the unit -/
theorem pow_bound (u : Int) (h2 : 2 ≤ u) (h20 : u ≤ 20) : ∀ k : Nat, 1 ≤ u ^ k ∧ u ^ k ≤ 20 ^ k
  | 0 => by simp
  | k + 1 => by
    obtain ⟨a, b⟩ := pow_bound u h2 h20 k
    rw [Int.pow_succ, Int.pow_succ]
    have c1 : (1 : Int) * 1 ≤ u ^ k * u := Int.mul_le_mul a (by omega) (by omega) (by omega)
    have c2 : u ^ k * u ≤ 20 ^ k * 20 := Int.mul_le_mul b h20 (by omega) (Int.le_of_lt (Int.pow_pos (by omega)))
    exact ⟨by omega, c2⟩
theorem pow_14 (u : Int) (h2 : 2 ≤ u) (h20 : u ≤ 20) (k : Nat) (hk : k ≤ 14) : 1 ≤ u ^ k ∧ u ^ k ≤ 1638400000000000000 := by
  obtain ⟨a, b⟩ := pow_bound u h2 h20 k
  refine ⟨a, Int.le_trans b ?_⟩
  have : (20 : Int) ^ k ≤ 20 ^ 14 := by
    have : (20 : Nat) ^ k ≤ 20 ^ 14 := Nat.pow_le_pow_right (by omega) hk
    exact_mod_cast this
  have e : (20 : Int) ^ 14 = 1638400000000000000 := by decide
  omega
def allP (o : TOutage) : Int := o.Unit ^ o.Down.length
theorem all_fold (u : Int) (h2 : 2 ≤ u) (h20 : u ≤ 20) : ∀ (ds : List Int) (i k : Nat), k + ds.length ≤ 14 → foldI (fun (_ : Nat) (_ : Int) a => IntKind.wrap .i64 (a * u)) i ds (u ^ k) = u ^ (k + ds.length)
  | [], i, k, _ => rfl
  | d :: ds, i, k, h => by
    simp only [List.length_cons] at h
    have := pow_14 u h2 h20 (k + 1) (by omega)
    rw [Int.pow_succ] at this
    simp only [foldI]
    rw [w64_eq (by omega) (by omega), ← Int.pow_succ, all_fold u h2 h20 ds (i + 1) (k + 1) (by omega)]
    congr 1; simp; omega
theorem all_loop {f : Int × Int → Option ((Int × Int) ⊕ Int)} (o : TOutage) (h2 : 2 ≤ o.Unit) (h20 : o.Unit ≤ 20) (hl : o.Down.length ≤ 14)
    (h1 : ∀ (i : Nat) (a : Int), i < o.Down.length → f (a, (i : Int)) = some (.inl (IntKind.wrap .i64 (a * o.Unit), ((i + 1 : Nat) : Int)))) (hf : ∀ a, f (a, (o.Down.length : Int)) = some (.inr a)) :
    iter f N0 (1, 0) = some (allP o) := by
  have := iter_foldI (f := f) o.Down (fun i (a : Int) => (a, (i : Int))) (fun (_ : Nat) (_ : Int) a => IntKind.wrap .i64 (a * o.Unit)) id (fun _ _ => True) (fun i a x hx _ => ⟨trivial, h1 i a (List.getElem?_eq_some_iff.1 hx).1⟩) (fun a _ => hf a) 1 trivial (by omega)
  rw [show iter f N0 (1, 0) = _ from this]
  have e := all_fold o.Unit h2 h20 o.Down 0 0 (by omega)
  rw [Int.pow_zero, Nat.zero_add] at e
  rw [e]; rfl
/-! ### products of 128 bits -/
theorem bits_and_u64 {a b : Nat} (ha : a < 2 ^ 64) (hb : b < 2 ^ 64) : bits .and .u64 (a : Int) (b : Int) = ((a &&& b : Nat) : Int) := by
  have h : a &&& b ≤ a := Nat.and_le_left
  unfold bits
  show IntKind.wrap .u64 (((BitVec.ofInt 64 (a : Int) &&& BitVec.ofInt 64 (b : Int)).toNat : Nat) : Int) = _
  rw [BitVec.toNat_and, BitVec.ofInt_natCast, BitVec.ofInt_natCast, BitVec.toNat_ofNat, BitVec.toNat_ofNat, Nat.mod_eq_of_lt ha, Nat.mod_eq_of_lt hb, w64u_eq (by omega) (by omega)]
theorem mask32 {x : Int} (h0 : 0 ≤ x) (h1 : x < 18446744073709551616) : bits .and .u64 x 4294967295 = x % 4294967296 := by
  obtain ⟨a, rfl⟩ := Int.eq_ofNat_of_zero_le h0
  have := bits_and_u64 (a := a) (b := 4294967295) (by omega) (by omega)
  have e : a &&& 4294967295 = a % 4294967296 := Nat.and_two_pow_sub_one_eq_mod a 32
  rw [e] at this
  simpa using this
theorem shr32 {x : Int} (h0 : 0 ≤ x) : Int.fdiv x (2 ^ (min (Int.toNat 32) (IntKind.bits .u64))) = x / 4294967296 := by
  have e : (2 : Int) ^ (min (Int.toNat 32) (IntKind.bits .u64)) = 4294967296 := by decide
  rw [e, Int.fdiv_eq_ediv_of_nonneg _ (by omega)]
theorem mul64_y (x d : Int) (h0 : 0 ≤ x) (h1 : x < 18446744073709551616) (d0 : 0 ≤ d) (d1 : d ≤ 1000) : M_math_bits_Mul64 x d = some (x * d / 18446744073709551616, x * d % 18446744073709551616) := by
  unfold M_math_bits_Mul64
  rw [shr32 h0, shr32 d0, mask32 h0 h1, mask32 d0 (by omega)]
  have hd1 : d / 4294967296 = 0 := by omega
  have hd2 : d % 4294967296 = d := by omega
  rw [hd1, hd2, Int.mul_zero, Int.mul_zero]
  have ha : 0 ≤ x / 4294967296 := by omega
  have ha2 : x / 4294967296 < 4294967296 := by omega
  have hb : 0 ≤ x % 4294967296 := by omega
  have hb2 : x % 4294967296 < 4294967296 := by omega
  have hp0 : 0 ≤ x / 4294967296 * d := Int.mul_nonneg ha d0
  have hp1 : x / 4294967296 * d ≤ 4294967296 * 1000 := Int.mul_le_mul (by omega) d1 d0 (by omega)
  have hq0 : 0 ≤ x % 4294967296 * d := Int.mul_nonneg hb d0
  have hq1 : x % 4294967296 * d ≤ 4294967296 * 1000 := Int.mul_le_mul (by omega) d1 d0 (by omega)
  have hx : x * d = x / 4294967296 * d * 4294967296 + x % 4294967296 * d := by
    have : x = x / 4294967296 * 4294967296 + x % 4294967296 := by omega
    have h : x * d = (x / 4294967296 * 4294967296 + x % 4294967296) * d := congrArg (· * d) this
    rw [Int.add_mul, Int.mul_right_comm] at h
    exact h
  generalize x / 4294967296 * d = p at *
  generalize x % 4294967296 * d = q at *
  generalize x * d = r at *
  have z0 : IntKind.wrap .u64 0 = 0 := w64u_eq (by omega) (by omega)
  rw [z0, w64u_eq hp0 (by omega), w64u_eq hq0 (by omega), shr32 hq0, w64u_eq (n := p + q / 4294967296) (by omega) (by omega), shr32 (x := p + q / 4294967296) (by omega), mask32 (x := p + q / 4294967296) (by omega) (by omega), Int.zero_add,
    w64u_eq (n := (p + q / 4294967296) / 4294967296) (by omega) (by omega), Int.add_zero, w64u_eq (n := (p + q / 4294967296) % 4294967296) (by omega) (by omega), shr32 (x := (p + q / 4294967296) % 4294967296) (by omega),
    w64u_eq (n := (p + q / 4294967296) / 4294967296 + (p + q / 4294967296) % 4294967296 / 4294967296) (by omega) (by omega), IntKind.wrap_u64]
  congr 2
  omega
theorem mul64_x (d y : Int) (h0 : 0 ≤ y) (h1 : y < 18446744073709551616) (d0 : 0 ≤ d) (d1 : d ≤ 1000) : M_math_bits_Mul64 d y = some (d * y / 18446744073709551616, d * y % 18446744073709551616) := by
  unfold M_math_bits_Mul64
  rw [shr32 h0, shr32 d0, mask32 h0 h1, mask32 d0 (by omega)]
  have hd1 : d / 4294967296 = 0 := by omega
  have hd2 : d % 4294967296 = d := by omega
  rw [hd1, hd2, Int.zero_mul, Int.zero_mul]
  have ha : 0 ≤ y / 4294967296 := by omega
  have ha2 : y / 4294967296 < 4294967296 := by omega
  have hb : 0 ≤ y % 4294967296 := by omega
  have hb2 : y % 4294967296 < 4294967296 := by omega
  have hp0 : 0 ≤ d * (y / 4294967296) := Int.mul_nonneg d0 ha
  have hp1 : d * (y / 4294967296) ≤ 1000 * 4294967296 := Int.mul_le_mul d1 (by omega) ha (by omega)
  have hq0 : 0 ≤ d * (y % 4294967296) := Int.mul_nonneg d0 hb
  have hq1 : d * (y % 4294967296) ≤ 1000 * 4294967296 := Int.mul_le_mul d1 (by omega) hb (by omega)
  have hx : d * y = d * (y / 4294967296) * 4294967296 + d * (y % 4294967296) := by
    have : y = y / 4294967296 * 4294967296 + y % 4294967296 := by omega
    have h : d * y = d * (y / 4294967296 * 4294967296 + y % 4294967296) := congrArg (d * ·) this
    rw [Int.mul_add, ← Int.mul_assoc] at h
    exact h
  generalize d * (y / 4294967296) = p at *
  generalize d * (y % 4294967296) = q at *
  generalize d * y = r at *
  have z0 : IntKind.wrap .u64 0 = 0 := w64u_eq (by omega) (by omega)
  rw [z0, w64u_eq hp0 (by omega), w64u_eq hq0 (by omega), shr32 hq0]
  simp only [Int.zero_add]
  rw [w64u_eq (n := q / 4294967296) (by omega) (by omega), shr32 (x := q / 4294967296) (by omega), mask32 (x := q / 4294967296) (by omega) (by omega),
    w64u_eq (n := q / 4294967296 / 4294967296) (by omega) (by omega), w64u_eq (n := q / 4294967296 % 4294967296 + p) (by omega) (by omega), shr32 (x := q / 4294967296 % 4294967296 + p) (by omega),
    w64u_eq (n := q / 4294967296 / 4294967296 + (q / 4294967296 % 4294967296 + p) / 4294967296) (by omega) (by omega), IntKind.wrap_u64]
  congr 2
  omega
theorem p_l16Part (x den all : Int) (x0 : 0 ≤ x) (xa : x < all) (al : all ≤ 1638400000000000000) (d0 : 1 ≤ den) (d1 : den ≤ 1000) : ∃ P R, M_spec_l16Part x den all = some P ∧ x * den = P * all + R ∧ 0 ≤ R ∧ R < all ∧ 0 ≤ P ∧ P ≤ den := by
  unfold M_spec_l16Part
  obtain ⟨b, hb, R, h1, h2, h3, h4, h5⟩ := iter_inv (f := M_spec_l16PartL1 x den all) (fun s => x * s.2.2 = s.1 * all + s.2.1 ∧ 0 ≤ s.2.1 ∧ s.2.1 < all ∧ 0 ≤ s.1 ∧ s.1 ≤ s.2.2 ∧ 0 ≤ s.2.2 ∧ s.2.2 ≤ den) (fun s => (den - s.2.2).toNat)
    (fun b => ∃ R, x * den = b * all + R ∧ 0 ≤ R ∧ R < all ∧ 0 ≤ b ∧ b ≤ den) (fun s hI => by
      obtain ⟨o, r, i⟩ := s
      obtain ⟨e1, e2, e3, e4, e5, e6, e7⟩ := hI
      simp only at e1 e2 e3 e4 e5 e6 e7
      by_cases hi : i < den
      · left
        have q1 : decide (i < den) = true := by simp [hi]
        have hxi : x * (i + 1) = x * i + x := by rw [Int.mul_add, Int.mul_one]
        by_cases hr : all - x ≤ r
        · refine ⟨(o + 1, r - (all - x), i + 1), ?_, ⟨?_, ?_, ?_, ?_, ?_, ?_, ?_⟩, ?_⟩
          · simp only [M_spec_l16PartL1, q1, cond_true]
            rw [w64_eq (n := all - x) (by omega) (by omega), w64_eq (n := i + 1) (by omega) (by omega), w64_eq (n := o + 1) (by omega) (by omega), w64_eq (n := r - (all - x)) (by omega) (by omega)]
            simp [hr]
          · simp only; rw [hxi, e1, Int.add_mul, Int.one_mul]; omega
          all_goals simp only
          all_goals omega
        · refine ⟨(o, r + x, i + 1), ?_, ⟨?_, ?_, ?_, ?_, ?_, ?_, ?_⟩, ?_⟩
          · simp only [M_spec_l16PartL1, q1, cond_true]
            rw [w64_eq (n := all - x) (by omega) (by omega), w64_eq (n := i + 1) (by omega) (by omega), w64_eq (n := r + x) (by omega) (by omega)]
            simp [hr]
          · simp only; rw [hxi, e1]; omega
          all_goals simp only
          all_goals omega
      · right
        have : i = den := by omega
        subst this
        exact ⟨o, by simp [M_spec_l16PartL1], r, e1, e2, e3, e4, e5⟩) N0 (0, 0, 0) ⟨by simp, by simp, by simp; omega, by simp, by simp, by simp, by simp; omega⟩ (N0_lt (by simp; omega))
  exact ⟨b, R, by rw [hb]; rfl, h1, h2, h3, h4, h5⟩
end Vs

namespace Vs
open Go
def MTg (n : TNetwork) (o : TOutage) (v num den : Int) : Bool := outOk n o && wi v 0 (allP o) && wi den 1 1000 && wi num 0 den
def MTr (n : TNetwork) (o : TOutage) (v num den : Int) : Bool × Bool := if MTg n o v num den then (decide (num * allP o ≤ v * den), true) else (false, false)
theorem allP_b {n : TNetwork} {o : TOutage} (h : outOk n o = true) : 1 ≤ allP o ∧ allP o ≤ 1638400000000000000 := by
  obtain ⟨h1, h2, h3, _⟩ := outOk_b h
  exact pow_14 o.Unit h1 h2 _ h3
theorem p_impl_MeetsTarget (x1 : TNetwork) (x2 : TOutage) (x3 x4 x5 : Int) (z1 : z_Network x1 ≤ 1048576) (z2 : z_Outage x2 ≤ 1048576) : M_impl_MeetsTarget x1 x2 x3 x4 x5 = some (MTr x1 x2 x3 x4 x5) := by
  unfold M_impl_MeetsTarget MTr MTg
  simp only [p_impl_Outage x1 x2 z1 z2, Option.bind_some, p_within]
  rcases bt (outOk x1 x2) with e1 | e1
  · obtain ⟨b1, b2, b3, _⟩ := outOk_b e1
    obtain ⟨a1, a2⟩ := allP_b e1
    rw [all_loop (f := M_impl_MeetsTargetL1 x2) x2 b1 b2 b3 (fun i a hi => by
      have q : decide ((i : Int) < x2.Down.length) = true := by simp [hi]
      simp only [M_impl_MeetsTargetL1, q, cond_true]
      rw [w64_eq (n := (i : Int) + 1) (by omega) (by omega)]; rfl) (fun a => by simp [M_impl_MeetsTargetL1])]
    simp only [e1, Bool.not_true, cond_false, Option.bind_some, Bool.true_and]
    rcases bt (wi x3 0 (allP x2)) with e2 | e2
    · rcases bt (wi x5 1 1000) with e3 | e3
      · rcases bt (wi x4 0 x5) with e4 | e4
        · have v := wi_iff.1 e2
          have d := wi_iff.1 e3
          have m := wi_iff.1 e4
          simp only [e2, e3, e4, Bool.not_true, cond_false, Option.bind_some, Bool.and_self, if_true]
          rw [w64u_eq (n := x3) (by omega) (by omega), w64u_eq (n := x5) (by omega) (by omega), w64u_eq (n := x4) (by omega) (by omega), w64u_eq (n := allP x2) (by omega) (by omega),
            mul64_y x3 x5 (by omega) (by omega) (by omega) (by omega), mul64_x x4 (allP x2) (by omega) (by omega) (by omega) (by omega)]
          simp only [Option.bind_some]
          generalize x3 * x5 = X
          generalize x4 * allP x2 = Y
          by_cases c1 : Y / 18446744073709551616 < X / 18446744073709551616
          · have c2 : Y ≤ X := by omega
            simp [c1, c2]
          · simp only [c1, decide_false, cond_false]
            by_cases c3 : X / 18446744073709551616 = Y / 18446744073709551616
            · have e : (X / 18446744073709551616 == Y / 18446744073709551616) = true := by simp [c3]
              rw [e]
              simp only [cond_true]
              have : decide (Y % 18446744073709551616 ≤ X % 18446744073709551616) = decide (Y ≤ X) := decide_eq_decide.2 (by omega)
              rw [this]
            · have e : (X / 18446744073709551616 == Y / 18446744073709551616) = false := by simp [c3]
              have c4 : ¬ Y ≤ X := by omega
              rw [e]
              simp [c4]
        · simp [e2, e3, e4]
      · simp [e2, e3]
    · simp [e2]
  · simp [e1]
theorem p_spec_MeetsTarget (x1 : TNetwork) (x2 : TOutage) (x3 x4 x5 : Int) (z1 : z_Network x1 ≤ 1048576) (z2 : z_Outage x2 ≤ 1048576) : M_spec_MeetsTarget x1 x2 x3 x4 x5 = some (MTr x1 x2 x3 x4 x5) := by
  unfold M_spec_MeetsTarget MTr MTg
  simp only [p_spec_Outage x1 x2 z1 z2, Option.bind_some, p_l1In]
  rcases bt (outOk x1 x2) with e1 | e1
  · obtain ⟨b1, b2, b3, _⟩ := outOk_b e1
    obtain ⟨a1, a2⟩ := allP_b e1
    rw [all_loop (f := M_spec_MeetsTargetL1 x2) x2 b1 b2 b3 (fun i a hi => by
      have q : decide ((i : Int) < x2.Down.length) = true := by simp [hi]
      simp only [M_spec_MeetsTargetL1, q, cond_true]
      rw [w64_eq (n := (i : Int) + 1) (by omega) (by omega)]; rfl) (fun a => by simp [M_spec_MeetsTargetL1])]
    simp only [e1, Bool.not_true, cond_false, Option.bind_some, Bool.true_and]
    rcases bt (wi x5 1 1000) with e3 | e3
    · rcases bt (wi x4 0 x5) with e4 | e4
      · rcases bt (wi x3 0 (allP x2)) with e2 | e2
        · have v := wi_iff.1 e2
          have d := wi_iff.1 e3
          have m := wi_iff.1 e4
          have hne : allP x2 ≠ 0 := by omega
          have hv0 : 0 ≤ x3 := v.1
          have hm0 : 0 ≤ x3 % allP x2 := Int.emod_nonneg _ hne
          have hm1 : x3 % allP x2 < allP x2 := Int.emod_lt_of_pos _ (by omega)
          obtain ⟨P, R, p1, p2, p3, p4, p5, p6⟩ := p_l16Part (x3 % allP x2) x5 (allP x2) hm0 hm1 a2 d.1 d.2
          have t1 : Int.tmod x3 (allP x2) = x3 % allP x2 := Int.tmod_eq_emod_of_nonneg hv0
          have t2 : Int.tdiv x3 (allP x2) = x3 / allP x2 := Int.tdiv_eq_ediv_of_nonneg hv0
          have q0 : 0 ≤ x3 / allP x2 := Int.ediv_nonneg hv0 (by omega)
          have q1 : x3 / allP x2 ≤ 1 := by
            have : x3 / allP x2 ≤ allP x2 / allP x2 := Int.ediv_le_ediv (by omega) v.2
            rwa [Int.ediv_self hne] at this
          have hqd : 0 ≤ x3 / allP x2 * x5 ∧ x3 / allP x2 * x5 ≤ 1000 := by
            rcases (show x3 / allP x2 = 0 ∨ x3 / allP x2 = 1 by omega) with e | e <;> rw [e] <;> omega
          simp only [e2, e3, e4, Bool.not_true, cond_false, Option.bind_some, Bool.and_self, if_true, grd_t hne, t1, t2, p1]
          rw [w64_eq (n := x3 / allP x2) (by omega) (by omega), w64_eq (n := x3 / allP x2 * x5) (by omega) (by omega), w64_eq (n := x3 / allP x2 * x5 + P) (by omega) (by omega)]
          have key : decide (x4 ≤ x3 / allP x2 * x5 + P) = decide (x4 * allP x2 ≤ x3 * x5) := by
            apply decide_eq_decide.2
            have hx : x3 = x3 / allP x2 * allP x2 + x3 % allP x2 := by have := Int.emod_add_mul_ediv x3 (allP x2); rw [Int.mul_comm (x3 / allP x2)]; omega
            have hxx : x3 * x5 = x3 / allP x2 * x5 * allP x2 + (P * allP x2 + R) := by
              rw [← p2]
              have h : x3 * x5 = (x3 / allP x2 * allP x2 + x3 % allP x2) * x5 := congrArg (· * x5) hx
              rw [Int.add_mul, Int.mul_right_comm] at h
              exact h
            rw [hxx]
            generalize x3 / allP x2 * x5 = q at *
            constructor
            · intro h
              have := Int.mul_le_mul_of_nonneg_right h (show 0 ≤ allP x2 by omega)
              rw [Int.add_mul] at this
              omega
            · intro h
              apply Decidable.byContradiction
              intro hc
              have h2 : q + P + 1 ≤ x4 := by omega
              have := Int.mul_le_mul_of_nonneg_right h2 (show 0 ≤ allP x2 by omega)
              rw [Int.add_mul, Int.add_mul, Int.one_mul] at this
              omega
          rw [key]
        · simp [e2, e3, e4]
      · simp [e3, e4]
    · simp [e3]
  · simp [e1]
end Vs

namespace Vs
open Go
theorem subT_len {α : Type} {xs : List α} {n : Nat} (h : xs.length = n) : subT xs 0 n = xs := by subst h; exact subT_all xs
theorem p_FnExactMeetsTarget (x1 : TNetwork) (x2 : TOutage) (x3 : Int) (x4 : Int) (x5 : Int) (o1 : ok_Network x1) (o2 : ok_Outage x2) : M_laws_FnExactMeetsTarget x1 x2 x3 x4 x5 = some true := by
  unfold M_laws_FnExactMeetsTarget
  rw [p_szNetwork x1 _ (by omega) (by omega) o1]
  simp only [Option.bind_some]
  by_cases hc1 : (1048576 : Int) - z_Network x1 < 0
  · simp [hc1]
  simp only [hc1, if_false, decide_false, cond_false]
  rw [p_szOutage x2 _ (by omega) (by omega) o2]
  simp only [Option.bind_some]
  by_cases hc2 : (1048576 : Int) - z_Network x1 - z_Outage x2 < 0
  · simp [hc2]
  simp only [hc2, if_false, decide_false, cond_false]
  have z1 : z_Network x1 ≤ 1048576 := by omega
  have z2 : z_Outage x2 ≤ 1048576 := by omega
  simp only [p_spec_MeetsTarget x1 x2 x3 x4 x5 z1 z2, p_impl_MeetsTarget x1 x2 x3 x4 x5 z1 z2, p_toNetwork x1 z1, p_toOutage x2 z2, p_eqNetwork x1 z1, p_eqOutage x2 z2, Option.bind_some, Bool.not_true, beq_self_eq_true, bnd, bne_self_eq_false, cond_false, cond_true]
end Vs

namespace Vs
open Go
theorem exists_map {α : Type} (e : α → AV) (p : α → Prop) : ∀ (xs : List AV), (∀ x ∈ xs, ∃ t, x = e t ∧ p t) → ∃ ts : List α, xs = ts.map e ∧ ∀ t ∈ ts, p t
  | [], _ => ⟨[], rfl, by simp⟩
  | x :: xs, h => by
    obtain ⟨t, h1, h2⟩ := h x (by simp)
    obtain ⟨ts, h3, h4⟩ := exists_map e p xs fun y hy => h y (by simp [hy])
    exact ⟨t :: ts, by simp [h1, h3], fun s hs => by
      rcases List.mem_cons.1 hs with rfl | hs
      · exact h2
      · exact h4 s hs⟩
theorem FitsL_cons {l : Lf} {ls : List Lf} : ∀ {al : List AV}, FitsL (l :: ls) al → ∃ a al', al = a :: al' ∧ Fits l a ∧ FitsL ls al'
  | a :: al, h => ⟨a, al, rfl, h.1, h.2⟩
  | [], h => h.elim
theorem FitsL_nil : ∀ {al : List AV}, FitsL [] al → al = []
  | [], _ => rfl
  | _ :: _, h => h.elim
theorem i64_of_wf {n : Int} (h : (Lit.int .i64 n).wf = true) : I64 n := by
  simpa [Lit.wf, IntKind.min, IntKind.max, IntKind.signed, IntKind.bits, I64] using h
theorem Fits_i64 {a : AV} (h : Fits (.int .i64) a) : ∃ n, a = .i n ∧ I64 n := by
  obtain ⟨n, h1, h2⟩ := h
  exact ⟨n, h1, i64_of_wf h2⟩
theorem rec3 {α : Type} (e : α → AV) (mk : Int → Int → Int → α) (he : ∀ a b c, e (mk a b c) = .agg [.i a, .i b, .i c]) {y : AV} (h : FitsA (false, [.sl true [.int .i64, .int .i64, .int .i64]]) y) : ∃ ts : List α, y = .lst .o 3 (ts.map e) ∧ ts.length ≤ maxLen := by
  obtain ⟨⟨xs, rfl, hl, hx⟩, _⟩ := h.2 rfl
  obtain ⟨ts, rfl, _⟩ := exists_map e (fun _ => True) xs fun x hxm => by
    obtain ⟨cs, rfl, hc⟩ := (hx x hxm).1 rfl
    obtain ⟨_, _, rfl, f1, hc⟩ := FitsL_cons hc
    obtain ⟨_, _, rfl, f2, hc⟩ := FitsL_cons hc
    obtain ⟨_, _, rfl, f3, hc⟩ := FitsL_cons hc
    obtain rfl := FitsL_nil hc
    obtain ⟨a, rfl, _⟩ := Fits_i64 f1
    obtain ⟨b, rfl, _⟩ := Fits_i64 f2
    obtain ⟨c, rfl, _⟩ := Fits_i64 f3
    exact ⟨mk a b c, (he a b c).symm, trivial⟩
  rw [List.length_map] at hl
  exact ⟨ts, rfl, hl⟩
theorem ints {y : AV} (h : FitsA (false, [.sl false [.int .i64]]) y) : ∃ ts : List Int, y = .lst .o 1 (ts.map AV.i) ∧ ts.length ≤ maxLen := by
  obtain ⟨⟨xs, rfl, hl, hx⟩, _⟩ := h.2 rfl
  obtain ⟨ts, rfl, _⟩ := exists_map AV.i (fun _ => True) xs fun x hxm => by
    obtain ⟨a, rfl, _⟩ := Fits_i64 ((hx x hxm).2 rfl).1
    exact ⟨a, rfl, trivial⟩
  rw [List.length_map] at hl
  exact ⟨ts, rfl, hl⟩
theorem one3 {α : Type} (e : α → AV) (mk : Int → Int → Int → α) (he : ∀ a b c, e (mk a b c) = .agg [.i a, .i b, .i c]) {y : AV} (h : FitsA (true, [.int .i64, .int .i64, .int .i64]) y) : ∃ t : α, y = e t := by
  obtain ⟨cs, rfl, hc⟩ := h.1 rfl
  obtain ⟨_, _, rfl, f1, hc⟩ := FitsL_cons hc
  obtain ⟨_, _, rfl, f2, hc⟩ := FitsL_cons hc
  obtain ⟨_, _, rfl, f3, hc⟩ := FitsL_cons hc
  obtain rfl := FitsL_nil hc
  obtain ⟨a, rfl, _⟩ := Fits_i64 f1
  obtain ⟨b, rfl, _⟩ := Fits_i64 f2
  obtain ⟨c, rfl, _⟩ := Fits_i64 f3
  exact ⟨mk a b c, (he a b c).symm⟩
theorem int1 {y : AV} (h : FitsA (false, [.int .i64]) y) : ∃ n : Int, y = .i n := by
  obtain ⟨⟨n, rfl, _⟩, _⟩ := h.2 rfl
  exact ⟨n, rfl⟩
end Vs

