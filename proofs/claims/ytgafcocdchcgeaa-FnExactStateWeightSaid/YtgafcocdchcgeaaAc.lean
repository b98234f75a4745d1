/-
  Part of the proof that the law FnExactStateWeight returns true at every input; no condition beside the row's own.
-/
import Derived.Test.YtgafcocdchcgeaaFe
import Derived.Test.YtgafcocdchcgeaaAa
set_option linter.unusedSimpArgs false
set_option linter.unusedVariables false
namespace Vs
open Go
def z_StringS (xs : (List ByteArray)) : Nat := xs.length + (xs.map fun x => x.size).sum
def ok_StringS (xs : (List ByteArray)) : Prop := xs.length ≤ 9223372036854775807 ∧ ∀ x ∈ xs, x.size ≤ 9223372036854775807
theorem p_szStringS (xs : (List ByteArray)) (l : Int) (h1 : 0 ≤ l) (h2 : l ≤ 1048576) (hs : ok_StringS xs) : M_laws_szStringS xs l = some (if l - z_StringS xs < 0 then (-1 : Int) else l - z_StringS xs) := by
  unfold M_laws_szStringS
  have hs1 := hs.1
  rw [w64_eq (by omega) (by omega)]
  simp only [cond_ite, decide_eq_true_eq]
  by_cases h : l - (xs.length : Int) < 0
  · rw [if_pos h, if_pos (by unfold z_StringS; omega)]
  · rw [if_neg h, sz_loop (f := M_laws_szStringSL1 xs) xs (fun x => x.size) (fun i x l' hx h3 h4 => by
      have hlt := (List.getElem?_eq_some_iff.1 hx).1
      have h1 : decide ((i : Int) < xs.length) = true := by simp [hlt]
      have hx2 := hs.2 x (List.mem_of_getElem? hx)
      simp only [M_laws_szStringSL1, h1, cond_true, geti_nat, hx, Option.bind_some, cond_ite, decide_eq_true_eq]
      rw [w64_eq (by omega) (by omega), w64_eq (by omega) (by omega)]
      by_cases h5 : l' - (x.size : Int) < 0
      · simp only [if_pos h5, if_true]
      · simp only [if_neg h5, if_true]; rfl) (fun l => by simp [M_laws_szStringSL1]) _ (by omega) (by omega) (by omega)]
    have e : l - (xs.length : Int) - ((xs.map fun x => x.size).sum : Nat) = l - (z_StringS xs : Int) := by unfold z_StringS; omega
    rw [e]
    by_cases h5 : l - (z_StringS xs : Int) < 0
    · simp only [if_pos h5, Option.bind_some]
    · simp only [if_neg h5, Option.bind_some]
theorem p_toStringS (xs : (List ByteArray)) (hl : z_StringS xs ≤ 1048576) : M_laws_toStringS xs = some xs := by
  unfold M_laws_toStringS
  have hlen : xs.length ≤ 1048576 := by unfold z_StringS at hl; omega
  have key := fun l0 (h0 : l0.length = xs.length) => iter_copy (f := M_laws_toStringSL1 xs) xs id l0 h0 (fun i l x y hx hy hll => by
    have hlt := (List.getElem?_eq_some_iff.1 hx).1
    have h1 : decide ((i : Int) < xs.length) = true := by simp [hlt]
    have h2 : (0 ≤ (i : Int) ∧ (i : Int) < (l.length : Int)) := by omega
    simp only [M_laws_toStringSL1, h1, cond_true, geti_nat, hx, Option.bind_some, grd_t h2, Int.toNat_natCast, hy, bnd, id]
    rw [w64_eq (by omega) (by omega)]; rfl) (fun l => by simp [M_laws_toStringSL1]) (by omega)
  rw [grd_t (by omega)]
  simp only [Option.bind_some, bnd]
  rw [key _ (by simp)]; simp
theorem p_eqStringS (xs : (List ByteArray)) (hl : z_StringS xs ≤ 1048576) : M_laws_eqStringS xs xs = some true := by
  unfold M_laws_eqStringS
  have hlen : xs.length ≤ 1048576 := by unfold z_StringS at hl; omega
  rw [eq_loop (f := M_laws_eqStringSL1 xs xs) xs (fun i x hx => by
    have hlt := (List.getElem?_eq_some_iff.1 hx).1
    have h1 : decide ((i : Int) < xs.length) = true := by simp [hlt]
    simp only [M_laws_eqStringSL1, h1, cond_true, geti_nat, hx, Option.bind_some, beq_self_eq_true, Bool.not_true, cond_false]
    rw [w64_eq (by omega) (by omega)]; rfl) (by simp [M_laws_eqStringSL1]) (by omega)]
  simp
theorem p_toFiber (x : TFiber) : M_laws_toFiber x = some x := by unfold M_laws_toFiber; rfl
theorem p_eqFiber (x : TFiber) : M_laws_eqFiber x x = some true := by unfold M_laws_eqFiber; simp
def z_FiberS (xs : (List TFiber)) : Nat := xs.length
def ok_FiberS (xs : (List TFiber)) : Prop := xs.length ≤ 9223372036854775807
theorem p_szFiberS (xs : (List TFiber)) (l : Int) (h1 : 0 ≤ l) (h2 : l ≤ 1048576) (hs : ok_FiberS xs) : M_laws_szFiberS xs l = some (if l - z_FiberS xs < 0 then (-1 : Int) else l - z_FiberS xs) := by
  unfold M_laws_szFiberS
  unfold ok_FiberS at hs
  rw [w64_eq (by omega) (by omega)]
  simp only [cond_ite, decide_eq_true_eq]
  by_cases h : l - (xs.length : Int) < 0
  · rw [if_pos h, if_pos (show l - (z_FiberS xs : Int) < 0 from h)]
  · rw [if_neg h, if_neg (show ¬ l - (z_FiberS xs : Int) < 0 from h)]; rfl
theorem p_toFiberS (xs : (List TFiber)) (hl : z_FiberS xs ≤ 1048576) : M_laws_toFiberS xs = some xs := by
  unfold M_laws_toFiberS
  have hlen : xs.length ≤ 1048576 := by unfold z_FiberS at hl; omega
  have key := fun l0 (h0 : l0.length = xs.length) => iter_copy (f := M_laws_toFiberSL1 xs) xs id l0 h0 (fun i l x y hx hy hll => by
    have hlt := (List.getElem?_eq_some_iff.1 hx).1
    have h1 : decide ((i : Int) < xs.length) = true := by simp [hlt]
    have h2 : (0 ≤ (i : Int) ∧ (i : Int) < (l.length : Int)) := by omega
    have hto : M_laws_toFiber x = some x := p_toFiber x
    simp only [M_laws_toFiberSL1, h1, cond_true, geti_nat, hx, Option.bind_some, grd_t h2, Int.toNat_natCast, hy, hto, bnd, id]
    rw [w64_eq (by omega) (by omega)]; rfl) (fun l => by simp [M_laws_toFiberSL1]) (by omega)
  rw [grd_t (by omega)]
  simp only [Option.bind_some, bnd]
  rw [key _ (by simp)]; simp
theorem p_eqFiberS (xs : (List TFiber)) (hl : z_FiberS xs ≤ 1048576) : M_laws_eqFiberS xs xs = some true := by
  unfold M_laws_eqFiberS
  have hlen : xs.length ≤ 1048576 := by unfold z_FiberS at hl; omega
  rw [eq_loop (f := M_laws_eqFiberSL1 xs xs) xs (fun i x hx => by
    have hlt := (List.getElem?_eq_some_iff.1 hx).1
    have h1 : decide ((i : Int) < xs.length) = true := by simp [hlt]
    have he : M_laws_eqFiber x x = some true := p_eqFiber x
    simp only [M_laws_eqFiberSL1, h1, cond_true, geti_nat, hx, Option.bind_some, he, Bool.not_true, cond_false]
    rw [w64_eq (by omega) (by omega)]; rfl) (by simp [M_laws_eqFiberSL1]) (by omega)]
  simp
def z_Network (x : TNetwork) : Nat := z_StringS x.Nodes + z_FiberS x.Fibers
def ok_Network (x : TNetwork) : Prop := ok_StringS x.Nodes ∧ ok_FiberS x.Fibers
theorem p_szNetwork (x : TNetwork) (l : Int) (h1 : 0 ≤ l) (h2 : l ≤ 1048576) (hs : ok_Network x) : M_laws_szNetwork x l = some (if l - z_Network x < 0 then (-1 : Int) else l - z_Network x) := by
  unfold M_laws_szNetwork
  obtain ⟨hs0, hs1⟩ := hs
  rw [p_szStringS _ _ (by omega) (by omega) hs0]
  simp only [Option.bind_some]
  by_cases h10 : l - (z_StringS x.Nodes : Int) < 0
  · rw [if_pos h10, if_pos (show l - (z_Network x : Int) < 0 by unfold z_Network; omega)]; simp
  · simp only [if_neg h10]
    simp only [h10, decide_false, cond_false]
    rw [p_szFiberS _ _ (by omega) (by omega) hs1]
    simp only [Option.bind_some]
    by_cases h11 : l - (z_StringS x.Nodes : Int) - (z_FiberS x.Fibers : Int) < 0
    · rw [if_pos h11, if_pos (show l - (z_Network x : Int) < 0 by unfold z_Network; omega)]; simp
    · simp only [if_neg h11]
      simp only [h11, decide_false, cond_false]
      have e : l - (z_StringS x.Nodes : Int) - (z_FiberS x.Fibers : Int) = l - (z_Network x : Int) := by unfold z_Network; omega
      rw [e, if_neg (by omega)]
theorem p_toNetwork (x : TNetwork) (hl : z_Network x ≤ 1048576) : M_laws_toNetwork x = some x := by
  unfold M_laws_toNetwork
  simp only [p_toStringS x.Nodes (by unfold z_Network at hl; omega), p_toFiberS x.Fibers (by unfold z_Network at hl; omega), Option.bind_some]
theorem p_eqNetwork (x : TNetwork) (hl : z_Network x ≤ 1048576) : M_laws_eqNetwork x x = some true := by
  unfold M_laws_eqNetwork
  simp [p_eqStringS x.Nodes (by unfold z_Network at hl; omega), p_eqFiberS x.Fibers (by unfold z_Network at hl; omega)]
def z_IntS (xs : (List Int)) : Nat := xs.length
def ok_IntS (xs : (List Int)) : Prop := xs.length ≤ 9223372036854775807
theorem p_szIntS (xs : (List Int)) (l : Int) (h1 : 0 ≤ l) (h2 : l ≤ 1048576) (hs : ok_IntS xs) : M_laws_szIntS xs l = some (if l - z_IntS xs < 0 then (-1 : Int) else l - z_IntS xs) := by
  unfold M_laws_szIntS
  unfold ok_IntS at hs
  rw [w64_eq (by omega) (by omega)]
  simp only [cond_ite, decide_eq_true_eq]
  by_cases h : l - (xs.length : Int) < 0
  · rw [if_pos h, if_pos (show l - (z_IntS xs : Int) < 0 from h)]
  · rw [if_neg h, if_neg (show ¬ l - (z_IntS xs : Int) < 0 from h)]; rfl
theorem p_toIntS (xs : (List Int)) (hl : z_IntS xs ≤ 1048576) : M_laws_toIntS xs = some xs := by
  unfold M_laws_toIntS
  have hlen : xs.length ≤ 1048576 := by unfold z_IntS at hl; omega
  have key := fun l0 (h0 : l0.length = xs.length) => iter_copy (f := M_laws_toIntSL1 xs) xs id l0 h0 (fun i l x y hx hy hll => by
    have hlt := (List.getElem?_eq_some_iff.1 hx).1
    have h1 : decide ((i : Int) < xs.length) = true := by simp [hlt]
    have h2 : (0 ≤ (i : Int) ∧ (i : Int) < (l.length : Int)) := by omega
    simp only [M_laws_toIntSL1, h1, cond_true, geti_nat, hx, Option.bind_some, grd_t h2, Int.toNat_natCast, hy, bnd, id]
    rw [w64_eq (by omega) (by omega)]; rfl) (fun l => by simp [M_laws_toIntSL1]) (by omega)
  rw [grd_t (by omega)]
  simp only [Option.bind_some, bnd]
  rw [key _ (by simp)]; simp
theorem p_eqIntS (xs : (List Int)) (hl : z_IntS xs ≤ 1048576) : M_laws_eqIntS xs xs = some true := by
  unfold M_laws_eqIntS
  have hlen : xs.length ≤ 1048576 := by unfold z_IntS at hl; omega
  rw [eq_loop (f := M_laws_eqIntSL1 xs xs) xs (fun i x hx => by
    have hlt := (List.getElem?_eq_some_iff.1 hx).1
    have h1 : decide ((i : Int) < xs.length) = true := by simp [hlt]
    simp only [M_laws_eqIntSL1, h1, cond_true, geti_nat, hx, Option.bind_some, bne_self_eq_false, cond_false]
    rw [w64_eq (by omega) (by omega)]; rfl) (by simp [M_laws_eqIntSL1]) (by omega)]
  simp
def z_Outage (x : TOutage) : Nat := z_IntS x.Down
def ok_Outage (x : TOutage) : Prop := ok_IntS x.Down
theorem p_szOutage (x : TOutage) (l : Int) (h1 : 0 ≤ l) (h2 : l ≤ 1048576) (hs : ok_Outage x) : M_laws_szOutage x l = some (if l - z_Outage x < 0 then (-1 : Int) else l - z_Outage x) := by
  unfold M_laws_szOutage
  have hs0 : ok_IntS x.Down := hs
  rw [p_szIntS _ _ (by omega) (by omega) hs0]
  simp only [Option.bind_some]
  by_cases h10 : l - (z_IntS x.Down : Int) < 0
  · rw [if_pos h10, if_pos (show l - (z_Outage x : Int) < 0 by unfold z_Outage; omega)]; simp
  · simp only [if_neg h10]
    simp only [h10, decide_false, cond_false]
    have e : l - (z_IntS x.Down : Int) = l - (z_Outage x : Int) := by unfold z_Outage; omega
    rw [e, if_neg (by omega)]
theorem p_toOutage (x : TOutage) (hl : z_Outage x ≤ 1048576) : M_laws_toOutage x = some x := by
  unfold M_laws_toOutage
  simp only [p_toIntS x.Down (by unfold z_Outage at hl; omega), Option.bind_some]
theorem p_eqOutage (x : TOutage) (hl : z_Outage x ≤ 1048576) : M_laws_eqOutage x x = some true := by
  unfold M_laws_eqOutage
  simp [p_eqIntS x.Down (by unfold z_Outage at hl; omega)]
end Vs

namespace Vs
open Go
theorem len_lt (b : Nat) (h : b ≤ 1048576) : b < 18446744073709551615 := by omega
def wi (x a b : Int) : Bool := decide (a ≤ x) && decide (x ≤ b)
theorem wi_iff {x a b : Int} : wi x a b = true ↔ a ≤ x ∧ x ≤ b := by simp [wi]
theorem wi_false {x a b : Int} : wi x a b = false ↔ ¬ (a ≤ x ∧ x ≤ b) := by rw [← wi_iff]; simp
theorem p_within (x a b : Int) : M_impl_within x a b = some (wi x a b) := by
  unfold M_impl_within wi; by_cases h : a ≤ x <;> simp [h]
theorem p_l1In (x a b : Int) : M_spec_l1In x a b = some (wi x a b) := by
  unfold M_spec_l1In wi; by_cases h : a ≤ x <;> simp [h]

/-! ### names -/
def letB (c : UInt8) : Bool := decide (97 ≤ c.toNat) && decide (c.toNat ≤ 122)
def digB (c : UInt8) : Bool := decide (48 ≤ c.toNat) && decide (c.toNat ≤ 57)
def nameBad (i : Nat) (c : UInt8) : Bool := !letB c && (!digB c || i == 0)
def nameB (s : ByteArray) : Bool := !anyI nameBad s.data.toList && wi s.size 1 8
theorem getz_nat (s : ByteArray) (i : Nat) : getz s (i : Int) = s.data.toList[i]? := by
  unfold getz
  rw [if_pos (by omega), Int.toNat_natCast]
  by_cases h : i < s.size
  · have h2 : i < s.data.toList.length := by simpa using h
    rw [getElem?_pos s i h, List.getElem?_eq_getElem h2]
    rfl
  · have h2 : ¬ i < s.data.toList.length := by simpa using h
    rw [getElem?_neg s i h, List.getElem?_eq_none (Nat.le_of_not_lt h2)]
theorem size_list (s : ByteArray) : s.size = s.data.toList.length := by show s.data.size = s.data.toList.length; rw [Array.length_toList]
theorem letB_c (c : UInt8) : letB c = (decide (97 ≤ (c.toNat : Int)) && decide ((c.toNat : Int) ≤ 122)) := by
  unfold letB
  congr 1 <;> exact decide_eq_decide.2 (by omega)
theorem digB_c (c : UInt8) : digB c = (decide (48 ≤ (c.toNat : Int)) && decide ((c.toNat : Int) ≤ 57)) := by
  unfold digB
  congr 1 <;> exact decide_eq_decide.2 (by omega)
theorem p_isName (s : ByteArray) (hl : s.size ≤ 1048576) : M_impl_isName s = some (nameB s) := by
  unfold M_impl_isName nameB
  rw [size_list] at *
  rw [iter_anyI (f := M_impl_isNameL1 s) s.data.toList nameBad (.inr false) (.inl ()) (fun i c hc _ => by
    have hlt := (List.getElem?_eq_some_iff.1 hc).1
    have h1 : decide ((i : Int) < s.size) = true := decide_eq_true (by rw [size_list]; omega)
    simp only [M_impl_isNameL1, h1, cond_true, getz_nat, hc, Option.bind_some, nameBad, letB_c, digB_c]
    rw [w64_eq (by omega) (by omega)]
    have hi : ((i : Int) == 0) = (i == 0) := by rw [Bool.eq_iff_iff]; simp
    rw [hi]
    cases decide (97 ≤ (c.toNat : Int)) <;> cases decide ((c.toNat : Int) ≤ 122) <;> cases decide (48 ≤ (c.toNat : Int)) <;> cases decide ((c.toNat : Int) ≤ 57) <;> cases (i == 0) <;> rfl) (by simp [M_impl_isNameL1]) (by omega)]
  rw [← size_list]
  cases anyI nameBad s.data.toList <;> simp [p_within]
theorem p_l2Sign (c : UInt8) : M_spec_l2Sign (c.toNat : Int) = some (letB c || digB c) := by
  unfold M_spec_l2Sign
  simp only [letB_c, digB_c]
  cases decide (97 ≤ (c.toNat : Int)) <;> cases decide ((c.toNat : Int) ≤ 122) <;> cases decide (48 ≤ (c.toNat : Int)) <;> rfl
theorem fstc (c : UInt8) : (cond (decide ((c.toNat : Int) < 97)) (some true) (some (decide (122 < (c.toNat : Int)))) : Option Bool) = some (!letB c) := by
  rw [letB_c]
  by_cases h1 : (c.toNat : Int) < 97
  · have h2 : ¬ 97 ≤ (c.toNat : Int) := by omega
    simp [h1, h2]
  · have h2 : 97 ≤ (c.toNat : Int) := by omega
    simp only [h1, decide_false, cond_false, h2, decide_true, Bool.true_and]
    by_cases h3 : 122 < (c.toNat : Int)
    · have h4 : ¬ (c.toNat : Int) ≤ 122 := by omega
      simp [h3, h4]
    · have h4 : (c.toNat : Int) ≤ 122 := by omega
      simp [h3, h4]
theorem p_l2Name (s : ByteArray) (hl : s.size ≤ 1048576) : M_spec_l2Name s = some (nameB s) := by
  unfold M_spec_l2Name nameB
  simp only [p_l1In, Option.bind_some]
  rcases bt (wi s.size 1 8) with hw | hw
  · simp only [hw, Bool.not_true, cond_false, Bool.and_true]
    have hs : 0 < s.data.toList.length := by rw [← size_list]; have := (wi_iff.1 hw).1; omega
    have h0 : s.data.toList[0]? = some s.data.toList[0] := List.getElem?_eq_getElem hs
    have g0 : getz s 0 = some s.data.toList[0] := by rw [← h0]; exact getz_nat s 0
    simp only [g0, Option.bind_some]
    have key := iter_anyI (f := M_spec_l2NameL1 s) s.data.toList (fun _ c => !(letB c || digB c)) (.inr false) (.inl ()) (fun i c hc _ => by
      have hlt := (List.getElem?_eq_some_iff.1 hc).1
      have h1 : decide ((i : Int) < s.size) = true := decide_eq_true (by rw [size_list]; omega)
      rw [size_list] at hl
      simp only [M_spec_l2NameL1, h1, cond_true, getz_nat, hc, Option.bind_some, p_l2Sign]
      rw [w64_eq (by omega) (by omega)]
      cases letB c <;> cases digB c <;> rfl) (by simp [M_spec_l2NameL1]) (by rw [size_list] at hl; omega)
    rw [fstc]
    simp only [Option.bind_some, key]
    rcases bt (letB s.data.toList[0]) with hL | hL
    · simp only [hL, Bool.not_true, cond_false]
      have e : anyI (fun _ c => !(letB c || digB c)) s.data.toList = anyI nameBad s.data.toList := by
        refine anyI_congr fun i c hc _ => ?_
        unfold nameBad
        by_cases hi : i = 0
        · subst hi; rw [h0] at hc; cases hc; rw [hL]; rfl
        · have : (i == 0) = false := by simpa using hi
          rw [this]
          cases letB c <;> cases digB c <;> rfl
      rw [e]
      cases anyI nameBad s.data.toList <;> rfl
    · have : anyI nameBad s.data.toList = true := anyI_iff.2 ⟨0, _, h0, by unfold nameBad; rw [hL]; simp⟩
      simp only [hL, this, Bool.not_false, cond_true, Bool.not_true]
  · simp [hw]

/-! ### which index -/
def idxZ (v : ByteArray) (xs : List ByteArray) : Option (Nat × ByteArray) := findI (fun _ x => x.toList == v.toList) xs
def fidx (v : ByteArray) (xs : List ByteArray) : Int := match idxZ v xs with | some q => (q.1 : Int) | none => -1
theorem p_l2Find (xs : List ByteArray) (v : ByteArray) (hl : xs.length ≤ 1048576) : M_spec_l2Find xs v = some (fidx v xs) := by
  unfold M_spec_l2Find fidx
  rw [iter_findI (f := M_spec_l2FindL1 xs v) xs (fun _ x => x.toList == v.toList) (fun i _ => (i : Int)) () (fun i x hx _ => by
    have hlt := (List.getElem?_eq_some_iff.1 hx).1
    have h1 : decide ((i : Int) < xs.length) = true := by simp [hlt]
    simp only [M_spec_l2FindL1, h1, cond_true, geti_nat, hx, Option.bind_some]
    rw [w64_eq (by omega) (by omega)]
    cases x.toList == v.toList <;> rfl) (by simp [M_spec_l2FindL1]) (by omega)]
  unfold idxZ
  cases findI (fun _ x => x.toList == v.toList) xs <;> rfl
theorem p_Contains_z (xs : List ByteArray) (v : ByteArray) (hl : xs.length ≤ 1048576) : M_slices_Contains_Lstring_string xs v = some (xs.any fun x => x.toList == v.toList) := by
  unfold M_slices_Contains_Lstring_string M_slices_Index_Lstring_string
  rw [iter_findI (f := M_slices_Index_Lstring_stringL1 xs v) xs (fun _ x => x.toList == v.toList) (fun i _ => (i : Int)) () (fun i x hx _ => by
    have hlt := (List.getElem?_eq_some_iff.1 hx).1
    have h1 : decide ((i : Int) < xs.length) = true := by simp [hlt]
    simp only [M_slices_Index_Lstring_stringL1, h1, cond_true, geti_nat, hx, Option.bind_some]
    rw [w64_eq (by omega) (by omega), show (v.toList == x.toList) = (x.toList == v.toList) from Bool.beq_comm ..]
    cases x.toList == v.toList <;> rfl) (by simp [M_slices_Index_Lstring_stringL1]) (by omega)]
  cases e : findI (fun _ x => x.toList == v.toList) xs with
  | none =>
    have := findI_none.1 e
    have h : (xs.any fun x => x.toList == v.toList) = false := by
      rw [← anyI_any (fun x : ByteArray => x.toList == v.toList), anyI_false]; exact this
    rw [h]; rfl
  | some q =>
    obtain ⟨i, x⟩ := q
    obtain ⟨h1, h2, _⟩ := findI_some.1 e
    have h : (xs.any fun x => x.toList == v.toList) = true := List.any_eq_true.2 ⟨x, List.mem_of_getElem? h1, h2⟩
    rw [h]; simp

/-! ### fibers in order -/
def cmpI (x y : Int) : Int := if x < y then -1 else if y < x then 1 else 0
theorem p_cmp (x y : Int) : M_cmp_Compare_int x y = some (cmpI x y) := by
  unfold M_cmp_Compare_int M_cmp_isNaN_int cmpI
  by_cases h : x < y
  · simp [h]
  · by_cases h2 : y < x <;> simp [h, h2]
def cmpF (f g : TFiber) : Int := if f.A ≠ g.A then cmpI f.A g.A else if f.B ≠ g.B then cmpI f.B g.B else if f.Length ≠ g.Length then cmpI f.Length g.Length else cmpI f.Risk g.Risk
theorem cmpI_zero {x y : Int} : cmpI x y = 0 ↔ x = y := by
  unfold cmpI
  split
  · simp; omega
  · split
    · simp; omega
    · simp; omega
theorem p_compareFibers (f g : TFiber) : M_impl_compareFibers f g = some (cmpF f g) := by
  unfold M_impl_compareFibers
  simp only [p_cmp, Option.bind_some, bnd]
  unfold M_cmp_Or_int
  have key := iter_findI (f := M_cmp_Or_intL1 [cmpI f.A g.A, cmpI f.B g.B, cmpI f.Length g.Length, cmpI f.Risk g.Risk]) [cmpI f.A g.A, cmpI f.B g.B, cmpI f.Length g.Length, cmpI f.Risk g.Risk] (fun _ x => x != 0) (fun _ x => x) () (fun i x hx _ => by
    have hlt := (List.getElem?_eq_some_iff.1 hx).1
    have h1 : decide ((i : Int) < ([cmpI f.A g.A, cmpI f.B g.B, cmpI f.Length g.Length, cmpI f.Risk g.Risk].length : Nat)) = true := decide_eq_true (by omega)
    simp only [List.length_cons, List.length_nil] at hlt
    simp only [M_cmp_Or_intL1, h1, cond_true, geti_nat, hx, Option.bind_some]
    rw [w64_eq (by omega) (by omega)]
    cases x != 0 <;> rfl) (by simp [M_cmp_Or_intL1]) (by simp)
  rw [key]
  unfold cmpF findI
  simp only [List.zipIdx_cons, List.zipIdx_nil, List.find?_cons, List.find?_nil]
  by_cases h1 : f.A = g.A
  · rw [cmpI_zero.2 h1]
    by_cases h2 : f.B = g.B
    · rw [cmpI_zero.2 h2]
      by_cases h3 : f.Length = g.Length
      · rw [cmpI_zero.2 h3]
        by_cases h4 : f.Risk = g.Risk
        · simp [h1, h2, h3, h4, cmpI_zero.2]
        · have : (cmpI f.Risk g.Risk != 0) = true := bne_iff_ne.2 fun e => h4 (cmpI_zero.1 e)
          simp [h1, h2, h3, this]
      · have : (cmpI f.Length g.Length != 0) = true := bne_iff_ne.2 fun e => h3 (cmpI_zero.1 e)
        simp [h1, h2, h3, this]
    · have : (cmpI f.B g.B != 0) = true := bne_iff_ne.2 fun e => h2 (cmpI_zero.1 e)
      simp [h1, h2, this]
  · have : (cmpI f.A g.A != 0) = true := bne_iff_ne.2 fun e => h1 (cmpI_zero.1 e)
    simp [h1, this]
end Vs

namespace Vs
open Go
theorem slT_nat {α : Type} (xs : List α) (i : Nat) (h : i ≤ xs.length) : slT xs (i : Int) = some (xs.take i) := by
  unfold slT
  rw [if_pos ⟨by omega, by simpa using h⟩]; simp
theorem z_net {n : TNetwork} (h : z_Network n ≤ 1048576) : n.Nodes.length ≤ 1048576 ∧ n.Fibers.length ≤ 1048576 ∧ ∀ x ∈ n.Nodes, x.size ≤ 1048576 := by
  unfold z_Network z_StringS z_FiberS at h
  refine ⟨by omega, by omega, fun x hx => ?_⟩
  obtain ⟨i, hi, rfl⟩ := List.getElem_of_mem hx
  have : n.Nodes[i].size ≤ (n.Nodes.map fun x : ByteArray => x.size).sum := sum_ge (fun x : ByteArray => x.size) (xs := n.Nodes) (i := i) (x := n.Nodes[i]) (by simp [hi])
  omega
def nodeBad (n : TNetwork) (i : Nat) (x : ByteArray) : Bool := !nameB x || (n.Nodes.take i).any fun y => y.toList == x.toList
def fib1 (m : Nat) (f : TFiber) : Bool := decide (f.A < 0) || decide (f.B ≤ f.A) || decide ((m : Int) ≤ f.B) || !wi f.Length 1 5000 || !wi f.Risk 0 9
def fibBad (n : TNetwork) (i : Nat) (f : TFiber) : Bool := fib1 n.Nodes.length f || (decide (0 < i) && match n.Fibers[i - 1]? with | some g => decide (0 < cmpF g f) | none => false)
def netOk (n : TNetwork) : Bool := !anyI (nodeBad n) n.Nodes && !anyI (fibBad n) n.Fibers && wi n.Nodes.length 2 8 && decide (n.Fibers.length ≤ 14)

theorem p_IsValidNetwork (n : TNetwork) (hz : z_Network n ≤ 1048576) : M_impl_IsValidNetwork n = some (netOk n) := by
  obtain ⟨h1, h2, h3⟩ := z_net hz
  unfold M_impl_IsValidNetwork netOk
  rw [iter_anyI (f := M_impl_IsValidNetworkL1 n) n.Nodes (nodeBad n) (.inr false) (.inl ()) (fun i x hx _ => by
    have hlt := (List.getElem?_eq_some_iff.1 hx).1
    have e1 : decide ((i : Int) < n.Nodes.length) = true := by simp [hlt]
    simp only [M_impl_IsValidNetworkL1, e1, cond_true, geti_nat, hx, Option.bind_some, p_isName x (h3 x (List.mem_of_getElem? hx)), slT_nat n.Nodes i (Nat.le_of_lt hlt), p_Contains_z (n.Nodes.take i) x (by simp; omega), nodeBad]
    rw [w64_eq (by omega) (by omega)]
    rcases bt (nameB x) with e | e <;> rcases bt ((n.Nodes.take i).any (fun y => y.toList == x.toList)) with e' | e' <;> simp only [e, e'] <;> rfl) (by simp [M_impl_IsValidNetworkL1]) (by omega)]
  rcases bt (anyI (nodeBad n) n.Nodes) with hN | hN
  · simp [hN]
  · simp only [hN, Bool.false_eq_true, if_false, Option.bind_some, Bool.not_false, Bool.true_and]
    rw [iter_anyI (f := M_impl_IsValidNetworkL2 n) n.Fibers (fibBad n) (.inr false) (.inl ()) (fun i x hx _ => by
      have hlt := (List.getElem?_eq_some_iff.1 hx).1
      have e1 : decide ((i : Int) < n.Fibers.length) = true := by simp [hlt]
      simp only [M_impl_IsValidNetworkL2, e1, cond_true, geti_nat, hx, Option.bind_some, p_within]
      rw [w64_eq (n := (i : Int) + 1) (by omega) (by omega)]
      unfold fibBad fib1
      cases decide (x.A < 0)
      · cases decide (x.B ≤ x.A)
        · cases decide ((n.Nodes.length : Int) ≤ x.B)
          · cases wi x.Length 1 5000
            · rfl
            · cases wi x.Risk 0 9
              · rfl
              · by_cases hi : 0 < i
                · have hi' : decide ((0 : Int) < (i : Int)) = true := by simp [hi]
                  have hp : n.Fibers[i - 1]? = some n.Fibers[i - 1] := List.getElem?_eq_getElem (by omega)
                  have hw : IntKind.wrap .i64 ((i : Int) - 1) = ((i - 1 : Nat) : Int) := by rw [w64_eq (by omega) (by omega)]; omega
                  simp only [hi', cond_true, cond_false, Bool.not_true, hw, geti_nat, hp, Option.bind_some, p_compareFibers, hi, decide_true, Bool.true_and, Bool.false_or]
                  cases decide (0 < cmpF n.Fibers[i - 1] x) <;> rfl
                · have hi' : decide ((0 : Int) < (i : Int)) = false := by simp; omega
                  simp [hi', hi]
          · rfl
        · rfl
      · rfl) (by simp [M_impl_IsValidNetworkL2]) (by omega)]
    rcases bt (anyI (fibBad n) n.Fibers) with hF | hF
    · simp [hF]
    · simp only [hF, Bool.false_eq_true, if_false, Option.bind_some, Bool.not_false, Bool.true_and, p_within]
      have e : decide ((n.Fibers.length : Int) ≤ 14) = decide (n.Fibers.length ≤ 14) := decide_eq_decide.2 (by omega)
      rw [e]
      cases wi n.Nodes.length 2 8 <;> rfl

theorem find_dup (n : TNetwork) (i : Nat) (x : ByteArray) (hx : n.Nodes[i]? = some x) :
    (fidx x n.Nodes != (i : Int)) = (n.Nodes.take i).any fun y => y.toList == x.toList := by
  unfold fidx
  cases e : idxZ x n.Nodes with
  | none =>
    have := findI_none.1 e i x hx
    simp at this
  | some q =>
    obtain ⟨j, y⟩ := q
    obtain ⟨h1, h2, h3⟩ := findI_some.1 e
    simp only
    by_cases hj : j = i
    · subst hj
      have : ((n.Nodes.take j).any fun y => y.toList == x.toList) = false := by
        rw [List.any_eq_false]
        intro z hz
        obtain ⟨k, hk, rfl⟩ := List.getElem_of_mem hz
        simp only [List.length_take] at hk
        have := h3 k (n.Nodes.take j)[k] (by omega) (by rw [List.getElem_take]; exact List.getElem?_eq_getElem (by omega))
        rw [this]; simp
      rw [this]; simp
    · have hji : j < i := by
        rcases Nat.lt_trichotomy j i with h | h | h
        · exact h
        · exact (hj h).elim
        · have := h3 i x h hx
          simp at this
      have : ((n.Nodes.take i).any fun y => y.toList == x.toList) = true := List.any_eq_true.2 ⟨y, by
        have : (n.Nodes.take i)[j]? = some y := by rw [List.getElem?_take, if_pos hji]; exact h1
        exact List.mem_of_getElem? this, h2⟩
      rw [this]
      simp; omega

theorem p_l2Fiber (f : TFiber) (m : Nat) (hm : m ≤ 8) (hm2 : 2 ≤ m) : M_spec_l2Fiber f (m : Int) = some (!fib1 m f) := by
  unfold M_spec_l2Fiber fib1
  simp only [p_l1In, Option.bind_some]
  rw [w64_eq (n := (m : Int) - 1) (by omega) (by omega)]
  rcases bt (wi f.A 0 ((m : Int) - 1)) with h1 | h1
  · have h2 := wi_iff.1 h1
    rw [w64_eq (n := f.A + 1) (by omega) (by omega)]
    rcases bt (wi f.B (f.A + 1) ((m : Int) - 1)) with h3 | h3
    · have h4 := wi_iff.1 h3
      have a1 : decide (f.A < 0) = false := by simp; omega
      have a2 : decide (f.B ≤ f.A) = false := by simp; omega
      have a3 : decide ((m : Int) ≤ f.B) = false := by simp; omega
      simp only [h1, h3, a1, a2, a3, cond_true, Bool.false_or]
      cases wi f.Length 1 5000 <;> cases wi f.Risk 0 9 <;> rfl
    · have h4 := wi_false.1 h3
      simp only [h1, h3, cond_true, cond_false]
      by_cases a2 : f.B ≤ f.A
      · simp [a2]
      · have a3 : (m : Int) ≤ f.B := by omega
        simp [a3]
  · have h2 := wi_false.1 h1
    simp only [h1, cond_false]
    by_cases a1 : f.A < 0
    · simp [a1]
    · by_cases a2 : f.B ≤ f.A
      · simp [a2]
      · have a3 : (m : Int) ≤ f.B := by omega
        simp [a3]

structure FibOk (m : Int) (f : TFiber) : Prop where
  a0 : 0 ≤ f.A
  ab : f.A < f.B
  bm : f.B < m
  l1 : 1 ≤ f.Length
  l2 : f.Length ≤ 5000
  r0 : 0 ≤ f.Risk
  r9 : f.Risk ≤ 9
theorem fib1_ok {m : Nat} {f : TFiber} (h : fib1 m f = false) : FibOk m f := by
  unfold fib1 at h
  simp only [Bool.or_eq_false_iff, decide_eq_false_iff_not, Bool.not_eq_false', wi_iff] at h
  obtain ⟨⟨⟨⟨h1, h2⟩, h3⟩, h4, h5⟩, h6, h7⟩ := h
  exact ⟨by omega, by omega, by omega, h4, h5, h6, h7⟩

theorem p_before (f g : TFiber) (m : Nat) (hm : m ≤ 8) (hf : FibOk m f) (hg : FibOk m g) : ∃ r, M_spec_l2Before f g = some r ∧ decide (0 < r) = decide (0 < cmpF f g) := by
  obtain ⟨a1, a2, a3, a4, a5, a6, a7⟩ := hf
  obtain ⟨b1, b2, b3, b4, b5, b6, b7⟩ := hg
  have sgn : ∀ x y : Int, decide (0 < x - y) = decide (0 < cmpI x y) := by
    intro x y
    unfold cmpI
    by_cases h : x < y
    · rw [if_pos h]; exact decide_eq_decide.2 (by omega)
    · rw [if_neg h]
      by_cases h2 : y < x
      · rw [if_pos h2]; exact decide_eq_decide.2 (by omega)
      · rw [if_neg h2]; exact decide_eq_decide.2 (by omega)
  unfold M_spec_l2Before cmpF
  rw [w64_eq (n := f.A - g.A) (by omega) (by omega), w64_eq (n := f.B - g.B) (by omega) (by omega), w64_eq (n := f.Length - g.Length) (by omega) (by omega), w64_eq (n := f.Risk - g.Risk) (by omega) (by omega)]
  by_cases h1 : f.A = g.A
  · have e1 : (f.A != g.A) = false := by rw [h1]; simp
    by_cases h2 : f.B = g.B
    · have e2 : (f.B != g.B) = false := by rw [h2]; simp
      by_cases h3 : f.Length = g.Length
      · have e3 : (f.Length != g.Length) = false := by rw [h3]; simp
        exact ⟨f.Risk - g.Risk, by simp only [e1, e2, e3, cond_false], by simp only [h1, h2, h3, ne_eq, not_true, if_false]; exact sgn _ _⟩
      · have e3 : (f.Length != g.Length) = true := bne_iff_ne.2 h3
        exact ⟨f.Length - g.Length, by simp only [e1, e2, e3, cond_false, cond_true], by simp only [h1, h2, h3, ne_eq, not_true, not_false_eq_true, if_false, if_true]; exact sgn _ _⟩
    · have e2 : (f.B != g.B) = true := bne_iff_ne.2 h2
      exact ⟨f.B - g.B, by simp only [e1, e2, cond_false, cond_true], by simp only [h1, h2, ne_eq, not_true, not_false_eq_true, if_false, if_true]; exact sgn _ _⟩
  · have e1 : (f.A != g.A) = true := bne_iff_ne.2 h1
    exact ⟨f.A - g.A, by simp only [e1, cond_true], by simp only [h1, ne_eq, not_false_eq_true, if_true]; exact sgn _ _⟩

theorem p_l2Good (n : TNetwork) (hz : z_Network n ≤ 1048576) : M_spec_l2Good n = some (netOk n) := by
  obtain ⟨z1, z2, z3⟩ := z_net hz
  unfold M_spec_l2Good netOk
  simp only [p_l1In, Option.bind_some]
  rcases bt (wi n.Nodes.length 2 8) with hw | hw
  · have hw2 := wi_iff.1 hw
    have e : decide (14 < (n.Fibers.length : Int)) = !decide (n.Fibers.length ≤ 14) := by
      rw [← decide_not]; exact decide_eq_decide.2 (by omega)
    simp only [hw, e, Bool.not_true, cond_false, Option.bind_some, Bool.and_true]
    rcases bt (decide (n.Fibers.length ≤ 14)) with h14 | h14
    · simp only [h14, Bool.not_true, cond_false, Bool.and_true]
      rw [iter_anyI (f := M_spec_l2GoodL1 n) n.Nodes (nodeBad n) (.inr false) (.inl ()) (fun i x hx _ => by
        have hlt := (List.getElem?_eq_some_iff.1 hx).1
        have e1 : decide ((i : Int) < n.Nodes.length) = true := by simp [hlt]
        simp only [M_spec_l2GoodL1, e1, cond_true, geti_nat, hx, Option.bind_some, p_l2Name x (z3 x (List.mem_of_getElem? hx)), p_l2Find n.Nodes x z1, find_dup n i x hx, nodeBad]
        rw [w64_eq (by omega) (by omega)]
        rcases bt (nameB x) with e | e <;> rcases bt ((n.Nodes.take i).any (fun y => y.toList == x.toList)) with e' | e' <;> simp only [e, e'] <;> rfl) (by simp [M_spec_l2GoodL1]) (by omega)]
      rcases bt (anyI (nodeBad n) n.Nodes) with hN | hN
      · simp [hN]
      · simp only [hN, Bool.false_eq_true, if_false, Option.bind_some, Bool.not_false, Bool.true_and]
        rw [iter_anyI (f := M_spec_l2GoodL2 n) n.Fibers (fibBad n) (.inr false) (.inl ()) (fun i x hx hprev => by
          have hlt := (List.getElem?_eq_some_iff.1 hx).1
          have e1 : decide ((i : Int) < n.Fibers.length) = true := by simp [hlt]
          simp only [M_spec_l2GoodL2, e1, cond_true, geti_nat, hx, Option.bind_some, p_l2Fiber x n.Nodes.length (by omega) (by omega), Bool.not_not]
          rw [w64_eq (n := (i : Int) + 1) (by omega) (by omega)]
          unfold fibBad
          rcases bt (fib1 n.Nodes.length x) with h1 | h1
          · simp [h1]
          · simp only [h1, cond_false, Bool.false_or]
            by_cases hi : 0 < i
            · have hi' : decide ((0 : Int) < (i : Int)) = true := by simp [hi]
              have hp : n.Fibers[i - 1]? = some n.Fibers[i - 1] := List.getElem?_eq_getElem (by omega)
              have hw : IntKind.wrap .i64 ((i : Int) - 1) = ((i - 1 : Nat) : Int) := by rw [w64_eq (by omega) (by omega)]; omega
              have hb := hprev (i - 1) n.Fibers[i - 1] (by omega) hp
              unfold fibBad at hb
              simp only [Bool.or_eq_false_iff] at hb
              obtain ⟨r, r1, r2⟩ := p_before n.Fibers[i - 1] x n.Nodes.length (by omega) (fib1_ok hb.1) (fib1_ok h1)
              simp only [hi', cond_true, hw, geti_nat, hp, Option.bind_some, r1, r2, hi, decide_true, Bool.true_and]
              cases decide (0 < cmpF n.Fibers[i - 1] x) <;> rfl
            · have hi' : decide ((0 : Int) < (i : Int)) = false := by simp; omega
              simp [hi', hi]) (by simp [M_spec_l2GoodL2]) (by omega)]
        cases anyI (fibBad n) n.Fibers <;> rfl
    · simp [h14]
  · simp [hw]
end Vs

namespace Vs
open Go
/-! ### risk groups -/
theorem netOk_b {n : TNetwork} (h : netOk n = true) : 2 ≤ n.Nodes.length ∧ n.Nodes.length ≤ 8 ∧ n.Fibers.length ≤ 14 := by
  unfold netOk at h
  simp only [Bool.and_eq_true, decide_eq_true_eq, wi_iff] at h
  omega
theorem netOk_fib {n : TNetwork} (h : netOk n = true) {i : Nat} {f : TFiber} (hf : n.Fibers[i]? = some f) : FibOk n.Nodes.length f := by
  unfold netOk at h
  simp only [Bool.and_eq_true, Bool.not_eq_true'] at h
  have := anyI_false.1 h.1.1.2 i f hf
  unfold fibBad at this
  simp only [Bool.or_eq_false_iff] at this
  exact fib1_ok this.1
/-- the indices from i on of the fibers with a risk -/
def idxs (r : Int) : Nat → List TFiber → List Int
  | _, [] => []
  | i, f :: fs => if f.Risk = r then (i : Int) :: idxs r (i + 1) fs else idxs r (i + 1) fs
theorem idxs_cons (r : Int) (i : Nat) (f : TFiber) (fs : List TFiber) : idxs r i (f :: fs) = if f.Risk = r then (i : Int) :: idxs r (i + 1) fs else idxs r (i + 1) fs := rfl
theorem idxs_len (r : Int) : ∀ (fs : List TFiber) (i : Nat), (idxs r i fs).length ≤ fs.length
  | [], i => by simp [idxs]
  | f :: fs, i => by
    have := idxs_len r fs (i + 1)
    rw [idxs_cons]; split <;> simp <;> omega
theorem idxs_mem (r : Int) : ∀ (fs : List TFiber) (i : Nat) (x : Int), x ∈ idxs r i fs ↔ ∃ j f, fs[j]? = some f ∧ f.Risk = r ∧ x = ((i + j : Nat) : Int)
  | [], i, x => by simp [idxs]
  | f :: fs, i, x => by
    have ih := idxs_mem r fs (i + 1) x
    have step : (∃ j g, (f :: fs)[j]? = some g ∧ g.Risk = r ∧ x = ((i + j : Nat) : Int)) ↔ (f.Risk = r ∧ x = (i : Int)) ∨ ∃ j g, fs[j]? = some g ∧ g.Risk = r ∧ x = ((i + 1 + j : Nat) : Int) := by
      constructor
      · rintro ⟨j, g, h1, h2, h3⟩
        cases j with
        | zero => simp at h1; subst h1; exact .inl ⟨h2, h3⟩
        | succ j => exact .inr ⟨j, g, by simpa using h1, h2, by rw [h3]; congr 1; omega⟩
      · rintro (⟨h1, h2⟩ | ⟨j, g, h1, h2, h3⟩)
        · exact ⟨0, f, rfl, h1, h2⟩
        · exact ⟨j + 1, g, by simpa using h1, h2, by rw [h3]; congr 1; omega⟩
    rw [step, ← ih]
    rw [idxs_cons]
    split
    · rename_i h; simp [h]
    · rename_i h; simp [h]
theorem idxs_fold (r : Int) : ∀ (fs : List TFiber) (i : Nat) (acc : List Int), walkL (fun i (f : TFiber) (a : List Int) => (.inl (if f.Risk = r then a ++ [(i : Int)] else a) : List Int ⊕ List Int)) (fun a => a) i fs acc = acc ++ idxs r i fs
  | [], i, acc => by simp [walkL, idxs]
  | f :: fs, i, acc => by
    simp only [walkL]
    rw [idxs_fold r fs (i + 1)]
    rw [idxs_cons]
    split <;> simp
def risks : List Int := [1, 2, 3, 4, 5, 6, 7, 8, 9]
def groupsP (n : TNetwork) : List (List Int) := ((risks.map fun r => idxs r 0 n.Fibers).filter fun l => decide (0 < l.length)) ++ (idxs 0 0 n.Fibers).map fun i => [i]
theorem groupsP_len (n : TNetwork) (h : n.Fibers.length ≤ 14) : (groupsP n).length ≤ 23 := by
  have := idxs_len 0 n.Fibers 0
  have h2 := List.length_filter_le (fun l : List Int => decide (0 < l.length)) (risks.map fun r => idxs r 0 n.Fibers)
  have h3 : (risks.map fun r => idxs r 0 n.Fibers).length = 9 := rfl
  unfold groupsP
  simp only [List.length_append, List.length_map]
  omega

theorem idx_loop {f : Int × List Int → Option ((Int × List Int) ⊕ List Int)} (fs : List TFiber) (r : Int) (hl : fs.length ≤ 1048576)
    (h1 : ∀ (i : Nat) x (a : List Int), fs[i]? = some x → a.length ≤ i → f ((i : Int), a) = some (.inl (((i + 1 : Nat) : Int), if x.Risk = r then a ++ [(i : Int)] else a)))
    (h2 : ∀ a, f ((fs.length : Int), a) = some (.inr a)) : iter f N0 (0, []) = some (idxs r 0 fs) := by
  have := iter_list (f := f) fs (fun i (a : List Int) => ((i : Int), a)) (fun i x a => .inl (if x.Risk = r then a ++ [(i : Int)] else a)) (fun a => a) (fun i a => a.length ≤ i) (fun i a x hx hI => by
    refine .inl ⟨_, rfl, ?_, h1 i x a hx hI⟩
    split <;> first | omega | (simp only [List.length_append, List.length_cons, List.length_nil]; omega)) (fun a _ => h2 a) [] (by simp) (by omega)
  rw [show iter f N0 (0, []) = _ from this, idxs_fold]; rfl
theorem app_loop {f : Int × List (List Int) → Option ((Int × List (List Int)) ⊕ List (List Int))} (fs : List TFiber) (G : List (List Int)) (hl : fs.length ≤ 1048576) (hG : G.length ≤ 100)
    (h1 : ∀ (i : Nat) x (a : List (List Int)), fs[i]? = some x → a.length ≤ 100 + i → f ((i : Int), a) = some (.inl (((i + 1 : Nat) : Int), if x.Risk = 0 then a ++ [[(i : Int)]] else a)))
    (h2 : ∀ a, f ((fs.length : Int), a) = some (.inr a)) : iter f N0 (0, G) = some (G ++ (idxs 0 0 fs).map fun i => [i]) := by
  have := iter_list (f := f) fs (fun i (a : List (List Int)) => ((i : Int), a)) (fun i x a => .inl (if x.Risk = 0 then a ++ [[(i : Int)]] else a)) (fun a => a) (fun i a => a.length ≤ 100 + i) (fun i a x hx hI => by
    refine .inl ⟨_, rfl, ?_, h1 i x a hx hI⟩
    split <;> first | omega | (simp only [List.length_append, List.length_cons, List.length_nil]; omega)) (fun a _ => h2 a) G (by omega) (by omega)
  rw [show iter f N0 (0, G) = _ from this]
  have gen : ∀ (fs : List TFiber) (i : Nat) (acc : List (List Int)), walkL (fun i (f : TFiber) (a : List (List Int)) => (.inl (if f.Risk = 0 then a ++ [[(i : Int)]] else a) : List (List Int) ⊕ List (List Int))) (fun a => a) i fs acc = acc ++ (idxs 0 i fs).map fun i => [i] := by
    intro fs
    induction fs with
    | nil => intro i acc; simp [walkL, idxs]
    | cons f fs ih =>
      intro i acc
      simp only [walkL]
      rw [ih (i + 1)]
      rw [idxs_cons]
      split <;> simp
  rw [gen]

/-- the loop over the risks -/
theorem risk_loop {f : Int × List (List Int) → Option ((Int × List (List Int)) ⊕ List (List Int))} (fs : List TFiber)
    (h1 : ∀ (r : Int) (a : List (List Int)), 1 ≤ r → r ≤ 9 → a.length ≤ 10 → f (r, a) = some (.inl (r + 1, if 0 < (idxs r 0 fs).length then a ++ [idxs r 0 fs] else a)))
    (h2 : ∀ a, f (10, a) = some (.inr a)) : iter f N0 (1, []) = some ((risks.map fun r => idxs r 0 fs).filter fun l => decide (0 < l.length)) := by
  have := iter_list (f := f) risks (fun i (a : List (List Int)) => ((i : Int) + 1, a)) (fun i r a => .inl (if 0 < (idxs r 0 fs).length then a ++ [idxs r 0 fs] else a)) (fun a => a) (fun i a => a.length ≤ i) (fun i a r hr hI => by
    have hi : i < 9 := by have := (List.getElem?_eq_some_iff.1 hr).1; simpa [risks] using this
    have e : (i : Int) + 1 = r := by
      rcases i with _ | _ | _ | _ | _ | _ | _ | _ | _ | i <;> first | (simp [risks] at hr; omega) | omega
    refine .inl ⟨_, rfl, ?_, ?_⟩
    · split <;> first | omega | (simp only [List.length_append, List.length_cons, List.length_nil]; omega)
    · rw [e, h1 r a (by omega) (by omega) (by omega)]
      have : ((i + 1 : Nat) : Int) + 1 = r + 1 := by omega
      rw [this]) (fun a _ => by have := h2 a; simpa [risks] using this) [] (by simp) (by simp [risks])
  rw [show iter f N0 (1, []) = _ from this]
  have gen : ∀ (rs : List Int) (i : Nat) (acc : List (List Int)), walkL (fun (_ : Nat) (r : Int) (a : List (List Int)) => (.inl (if 0 < (idxs r 0 fs).length then a ++ [idxs r 0 fs] else a) : List (List Int) ⊕ List (List Int))) (fun a => a) i rs acc =
      acc ++ (rs.map fun r => idxs r 0 fs).filter fun l => decide (0 < l.length) := by
    intro rs
    induction rs with
    | nil => intro i acc; simp [walkL]
    | cons r rs ih =>
      intro i acc
      simp only [walkL]
      rw [ih (i + 1), List.map_cons, List.filter_cons]
      by_cases h : 0 < (idxs r 0 fs).length
      · simp [h]
      · simp [h]
  rw [gen]; rfl

theorem p_groups (n : TNetwork) (h : n.Fibers.length ≤ 14) : M_impl_groups n = some (groupsP n) := by
  unfold M_impl_groups
  rw [risk_loop (f := M_impl_groupsL1 n) n.Fibers (fun r a hr1 hr9 ha => by
    have e1 : decide (r ≤ 9) = true := by simp [hr9]
    simp only [M_impl_groupsL1, e1, cond_true]
    rw [idx_loop (f := M_impl_groupsL2 n (r, a)) n.Fibers r (by omega) (fun i x b hx hb => by
      have hlt := (List.getElem?_eq_some_iff.1 hx).1
      have e1 : decide ((i : Int) < n.Fibers.length) = true := by simp [hlt]
      simp only [M_impl_groupsL2, e1, cond_true, geti_nat, hx, Option.bind_some, bnd]
      rw [grd_t (by omega), w64_eq (by omega) (by omega)]
      by_cases e : x.Risk = r
      · simp [e]
      · simp [e, cond_ite]) (fun a => by simp [M_impl_groupsL2])]
    simp only [Option.bind_some, bnd]
    rw [grd_t (by omega), w64_eq (by omega) (by omega)]
    by_cases e : 0 < (idxs r 0 n.Fibers).length
    · have e' : decide ((0 : Int) < ((idxs r 0 n.Fibers).length : Int)) = true := by simpa using e
      simp only [e', cond_true, if_pos e, Option.bind_some]
    · have e' : decide ((0 : Int) < ((idxs r 0 n.Fibers).length : Int)) = false := by simpa using e
      simp only [e', cond_false, if_neg e]) (fun a => by simp [M_impl_groupsL1])]
  simp only [Option.bind_some]
  have hl := List.length_filter_le (fun l : List Int => decide (0 < l.length)) (risks.map fun r => idxs r 0 n.Fibers)
  have hl9 : (risks.map fun r => idxs r 0 n.Fibers).length = 9 := rfl
  rw [app_loop (f := M_impl_groupsL3 n) n.Fibers _ (by omega) (by omega) (fun i x a hx ha => by
    have hlt := (List.getElem?_eq_some_iff.1 hx).1
    have e1 : decide ((i : Int) < n.Fibers.length) = true := by simp [hlt]
    simp only [M_impl_groupsL3, e1, cond_true, geti_nat, hx, Option.bind_some, bnd]
    rw [grd_t (by omega), w64_eq (by omega) (by omega)]
    by_cases e : x.Risk = 0
    · simp [e]
    · simp [e, cond_ite]) (fun a => by simp [M_impl_groupsL3])]
  rfl

theorem p_l2Group (n : TNetwork) (h : n.Fibers.length ≤ 14) (i : Nat) (f : TFiber) (hf : n.Fibers[i]? = some f) (hr : f.Risk ≠ 0) : M_spec_l2Group n (i : Int) = some (idxs f.Risk 0 n.Fibers) := by
  unfold M_spec_l2Group
  have e : (f.Risk == 0) = false := by simpa using hr
  simp only [geti_nat, hf, Option.bind_some, e, cond_false]
  rw [idx_loop (f := M_spec_l2GroupL1 n (i : Int)) n.Fibers f.Risk (by omega) (fun j x b hx hb => by
    have hlt := (List.getElem?_eq_some_iff.1 hx).1
    have e1 : decide ((j : Int) < n.Fibers.length) = true := by simp [hlt]
    simp only [M_spec_l2GroupL1, e1, cond_true, geti_nat, hx, hf, Option.bind_some, bnd]
    rw [grd_t (by omega), w64_eq (by omega) (by omega)]
    by_cases e : x.Risk = f.Risk
    · simp [e]
    · simp [e, cond_ite]) (fun a => by simp [M_spec_l2GroupL1])]
  rfl

theorem idxs_pos {r : Int} {fs : List TFiber} : 0 < (idxs r 0 fs).length ↔ ∃ (j : Nat) (f : TFiber), fs[j]? = some f ∧ f.Risk = r := by
  constructor
  · intro h
    obtain ⟨x, hx⟩ := List.exists_mem_of_length_pos h
    obtain ⟨j, f, h1, h2, _⟩ := (idxs_mem r fs 0 x).1 hx
    exact ⟨j, f, h1, h2⟩
  · rintro ⟨j, f, h1, h2⟩
    exact List.length_pos_of_mem ((idxs_mem r fs 0 _).2 ⟨j, f, h1, h2, rfl⟩)

theorem p_l2Groups (n : TNetwork) (h : n.Fibers.length ≤ 14) : M_spec_l2Groups n = some (groupsP n) := by
  unfold M_spec_l2Groups
  rw [risk_loop (f := M_spec_l2GroupsL1 n) n.Fibers (fun r a hr1 hr9 ha => by
    have e1 : decide (r ≤ 9) = true := by simp [hr9]
    simp only [M_spec_l2GroupsL1, e1, cond_true]
    have key : iter (M_spec_l2GroupsL2 n (r, a)) N0 0 = some (if 0 < (idxs r 0 n.Fibers).length then a ++ [idxs r 0 n.Fibers] else a) := by
      rw [iter_anyI (f := M_spec_l2GroupsL2 n (r, a)) n.Fibers (fun _ f => decide (f.Risk = r)) (a ++ [idxs r 0 n.Fibers]) a (fun i x hx _ => by
        have hlt := (List.getElem?_eq_some_iff.1 hx).1
        have e1 : decide ((i : Int) < n.Fibers.length) = true := by simp [hlt]
        simp only [M_spec_l2GroupsL2, e1, cond_true, geti_nat, hx, Option.bind_some, bnd]
        by_cases e : x.Risk = r
        · have e0 : x.Risk ≠ 0 := by omega
          have e2 : (x.Risk == r) = true := by simp [e]
          rw [p_l2Group n h i x hx e0]
          simp only [e2, cond_true, Option.bind_some]
          rw [grd_t (by omega)]
          simp [e]
        · have e2 : (x.Risk == r) = false := by simp [e]
          simp only [e2, cond_false]
          rw [w64_eq (by omega) (by omega)]
          simp [e]) (by simp [M_spec_l2GroupsL2]) (by omega)]
      by_cases hp : 0 < (idxs r 0 n.Fibers).length
      · rw [if_pos hp]
        obtain ⟨j, f, h1, h2⟩ := idxs_pos.1 hp
        have : anyI (fun _ (f : TFiber) => decide (f.Risk = r)) n.Fibers = true := anyI_iff.2 ⟨j, f, h1, by simp [h2]⟩
        rw [this]; rfl
      · rw [if_neg hp]
        have : anyI (fun _ (f : TFiber) => decide (f.Risk = r)) n.Fibers = false := anyI_false.2 fun i x hx => by
          simp only [decide_eq_false_iff_not]
          intro e; exact hp (idxs_pos.2 ⟨i, x, hx, e⟩)
        rw [this]; rfl
    rw [key]
    simp only [Option.bind_some]
    rw [w64_eq (by omega) (by omega)]) (fun a => by simp [M_spec_l2GroupsL1])]
  simp only [Option.bind_some]
  have hl := List.length_filter_le (fun l : List Int => decide (0 < l.length)) (risks.map fun r => idxs r 0 n.Fibers)
  have hl9 : (risks.map fun r => idxs r 0 n.Fibers).length = 9 := rfl
  rw [app_loop (f := M_spec_l2GroupsL3 n) n.Fibers _ (by omega) (by omega) (fun i x a hx ha => by
    have hlt := (List.getElem?_eq_some_iff.1 hx).1
    have e1 : decide ((i : Int) < n.Fibers.length) = true := by simp [hlt]
    simp only [M_spec_l2GroupsL3, e1, cond_true, geti_nat, hx, Option.bind_some, bnd]
    rw [grd_t (by omega), w64_eq (by omega) (by omega)]
    by_cases e : x.Risk = 0
    · simp [e]
    · simp [e, cond_ite]) (fun a => by simp [M_spec_l2GroupsL3])]
  rfl
end Vs

namespace Vs
open Go
theorem p_ContainsFunc_i (xs : List Int) (f : Int → Option Bool) (p : Int → Bool) (hf : ∀ x, f x = some (p x)) (hl : xs.length ≤ 1048576) : M_slices_ContainsFunc_Lint_int xs f = some (xs.any p) := by
  unfold M_slices_ContainsFunc_Lint_int M_slices_IndexFunc_Lint_int
  rw [iter_findI (f := M_slices_IndexFunc_Lint_intL1 xs f) xs (fun _ x => p x) (fun i _ => (i : Int)) () (fun i x hx _ => by
    have hlt := (List.getElem?_eq_some_iff.1 hx).1
    have h1 : decide ((i : Int) < xs.length) = true := by simp [hlt]
    simp only [M_slices_IndexFunc_Lint_intL1, h1, cond_true, geti_nat, hx, hf, Option.bind_some]
    rw [w64_eq (by omega) (by omega)]
    rcases bt (p x) with e | e <;> simp only [e] <;> rfl) (by simp [M_slices_IndexFunc_Lint_intL1]) (by omega)]
  rw [← anyI_any]
  cases e : findI (fun _ x => p x) xs with
  | none =>
    have := findI_none.1 e
    have h : anyI (fun _ x => p x) xs = false := anyI_false.2 this
    rw [h]; rfl
  | some q =>
    obtain ⟨i, x⟩ := q
    obtain ⟨h1, h2, _⟩ := findI_some.1 e
    have h : anyI (fun _ x => p x) xs = true := anyI_iff.2 ⟨i, x, h1, h2⟩
    rw [h]; simp
def outOk (n : TNetwork) (o : TOutage) : Bool := netOk n && wi o.Unit 2 20 && decide (o.Down.length = (groupsP n).length) && !o.Down.any fun d => !wi d 0 o.Unit
theorem beq_len {α β : Type} (a : List α) (b : List β) : ((a.length : Int) == (b.length : Int)) = decide (a.length = b.length) := by
  rw [Bool.eq_iff_iff]; simp; omega
theorem p_impl_Outage (n : TNetwork) (o : TOutage) (hz : z_Network n ≤ 1048576) (ho : o.Down.length ≤ 1048576) : M_impl_IsValidOutage n o = some (outOk n o) := by
  unfold M_impl_IsValidOutage outOk
  simp only [p_IsValidNetwork n hz, Option.bind_some, p_within]
  rcases bt (netOk n) with hn | hn
  · have hb := netOk_b hn
    simp only [hn, cond_true, p_groups n hb.2.2, Option.bind_some, beq_len, p_ContainsFunc_i o.Down (fun x0 => M_impl_IsValidOutage_c1 x0 o) (fun d => !wi d 0 o.Unit) (fun d => by unfold M_impl_IsValidOutage_c1; simp only [p_within, Option.bind_some]) ho]
    cases wi o.Unit 2 20 <;> cases decide (o.Down.length = (groupsP n).length) <;> simp
  · simp [hn]
theorem p_spec_Outage (n : TNetwork) (o : TOutage) (hz : z_Network n ≤ 1048576) (ho : o.Down.length ≤ 1048576) : M_spec_l16Good n o = some (outOk n o) := by
  unfold M_spec_l16Good outOk
  simp only [p_l2Good n hz, Option.bind_some, p_l1In]
  rcases bt (netOk n) with hn | hn
  · have hb := netOk_b hn
    simp only [hn, Bool.not_true, cond_false, p_l2Groups n hb.2.2, Option.bind_some, Bool.true_and]
    have e : ((o.Down.length : Int) != ((groupsP n).length : Int)) = !decide (o.Down.length = (groupsP n).length) := by rw [bne, beq_len]
    rw [e, iter_anyI (f := M_spec_l16GoodL1 o) o.Down (fun _ d => !wi d 0 o.Unit) (.inr false) (.inl ()) (fun i x hx _ => by
      have hlt := (List.getElem?_eq_some_iff.1 hx).1
      have h1 : decide ((i : Int) < o.Down.length) = true := by simp [hlt]
      simp only [M_spec_l16GoodL1, h1, cond_true, geti_nat, hx, p_l1In, Option.bind_some]
      rw [w64_eq (by omega) (by omega)]
      rcases bt (wi x 0 o.Unit) with e | e <;> simp only [e] <;> rfl) (by simp [M_spec_l16GoodL1]) (by omega), anyI_any]
    cases wi o.Unit 2 20 <;> cases decide (o.Down.length = (groupsP n).length) <;> cases (o.Down.any fun d => !wi d 0 o.Unit) <;> rfl
  · simp [hn]
end Vs

namespace Vs
open Go
/-! ### sets of indices -/
def setBad (l : List Int) (n : Int) (i : Nat) (x : Int) : Bool := !wi x 0 (n - 1) || (decide (0 < i) && match l[i - 1]? with | some y => decide (x ≤ y) | none => false)
def setB (l : List Int) (n : Int) : Bool := !anyI (setBad l n) l
theorem setB_mem {l : List Int} {n : Int} (h : setB l n = true) : ∀ x ∈ l, 0 ≤ x ∧ x < n := by
  intro x hx
  unfold setB at h
  simp only [Bool.not_eq_true'] at h
  obtain ⟨i, hi, rfl⟩ := List.getElem_of_mem hx
  have := anyI_false.1 h i l[i] (by simp [hi])
  unfold setBad at this
  simp only [Bool.or_eq_false_iff, Bool.not_eq_false', wi_iff] at this
  omega
theorem p_isSet (l : List Int) (n : Int) (hn : 0 ≤ n) (hn2 : n ≤ 1048576) (hl : l.length ≤ 1048576) : M_impl_isSet l n = some (setB l n) := by
  unfold M_impl_isSet setB
  rw [iter_anyI (f := M_impl_isSetL1 l n) l (setBad l n) (.inr false) (.inl ()) (fun i x hx _ => by
    have hlt := (List.getElem?_eq_some_iff.1 hx).1
    have h1 : decide ((i : Int) < l.length) = true := by simp [hlt]
    simp only [M_impl_isSetL1, h1, cond_true, geti_nat, hx, Option.bind_some, p_within]
    rw [w64_eq (n := n - 1) (by omega) (by omega), w64_eq (n := (i : Int) + 1) (by omega) (by omega)]
    unfold setBad
    rcases bt (wi x 0 (n - 1)) with e | e
    · by_cases hi : 0 < i
      · have hi' : decide ((0 : Int) < (i : Int)) = true := by simp [hi]
        have hp : l[i - 1]? = some l[i - 1] := List.getElem?_eq_getElem (by omega)
        have hw : IntKind.wrap .i64 ((i : Int) - 1) = ((i - 1 : Nat) : Int) := by rw [w64_eq (by omega) (by omega)]; omega
        simp only [e, hi', cond_true, cond_false, Bool.not_true, hw, geti_nat, hp, Option.bind_some, hi, decide_true, Bool.true_and, Bool.false_or]
        rcases bt (decide (x ≤ l[i - 1])) with e2 | e2 <;> simp only [e2] <;> rfl
      · have hi' : decide ((0 : Int) < (i : Int)) = false := by simp; omega
        simp [e, hi', hi]
    · simp [e]) (by simp [M_impl_isSetL1]) (by omega)]
  cases anyI (setBad l n) l <;> rfl
theorem p_l1Rising (l : List Int) (n : Int) (hn : 0 ≤ n) (hn2 : n ≤ 1048576) (hl : l.length ≤ 1048576) : M_spec_l1Rising l 0 (n - 1) = some (setB l n) := by
  unfold M_spec_l1Rising setB
  rw [iter_anyI (f := M_spec_l1RisingL1 l 0 (n - 1)) l (setBad l n) (.inr false) (.inl ()) (fun i x hx _ => by
    have hlt := (List.getElem?_eq_some_iff.1 hx).1
    have h1 : decide ((i : Int) < l.length) = true := by simp [hlt]
    simp only [M_spec_l1RisingL1, h1, cond_true, geti_nat, hx, Option.bind_some, p_l1In]
    rw [w64_eq (n := (i : Int) + 1) (by omega) (by omega)]
    unfold setBad
    rcases bt (wi x 0 (n - 1)) with e | e
    · by_cases hi : 0 < i
      · have hi' : decide ((0 : Int) < (i : Int)) = true := by simp [hi]
        have hp : l[i - 1]? = some l[i - 1] := List.getElem?_eq_getElem (by omega)
        have hw : IntKind.wrap .i64 ((i : Int) - 1) = ((i - 1 : Nat) : Int) := by rw [w64_eq (by omega) (by omega)]; omega
        simp only [e, hi', cond_true, cond_false, Bool.not_true, hw, geti_nat, hp, Option.bind_some, hi, decide_true, Bool.true_and, Bool.false_or]
        rcases bt (decide (x ≤ l[i - 1])) with e2 | e2 <;> simp only [e2] <;> rfl
      · have hi' : decide ((0 : Int) < (i : Int)) = false := by simp; omega
        simp [e, hi', hi]
    · simp [e]) (by simp [M_spec_l1RisingL1]) (by omega)]
  cases anyI (setBad l n) l <;> rfl
def bitG (_ : Nat) (x : Int) (m : Int) : Int := bits .or .i64 m (IntKind.wrap .i64 (1 * 2 ^ (min (Int.toNat x) (IntKind.bits .i64))))
def maskP (l : List Int) : Int := foldI bitG 0 l 0
theorem p_set (l : List Int) (h0 : ∀ x ∈ l, 0 ≤ x) (hl : l.length ≤ 1048576) : iter (M_impl_StateWeightL1 l) N0 (0, 0) = some (maskP l) := by
  refine iter_foldI (f := M_impl_StateWeightL1 l) l (fun i (a : Int) => (a, (i : Int))) bitG id (fun _ _ => True) (fun i a x hx _ => ?_) (fun a _ => by simp [M_impl_StateWeightL1]) 0 trivial (by omega)
  have hlt := (List.getElem?_eq_some_iff.1 hx).1
  have h1 : decide ((i : Int) < l.length) = true := by simp [hlt]
  have h2 := h0 x (List.mem_of_getElem? hx)
  simp only [M_impl_StateWeightL1, h1, cond_true, geti_nat, hx, Option.bind_some, grd_t h2]
  rw [w64_eq (n := (i : Int) + 1) (by omega) (by omega)]
  exact ⟨trivial, rfl⟩
theorem p_l6Mask (l : List Int) (h0 : ∀ x ∈ l, 0 ≤ x ∧ x < 1048576) (hl : l.length ≤ 1048576) : M_spec_l6Mask l = some (maskP l) := by
  unfold M_spec_l6Mask
  have : iter (M_spec_l6MaskL1 l) N0 (0, 0) = some (maskP l) := by
    refine iter_foldI (f := M_spec_l6MaskL1 l) l (fun i (a : Int) => (a, (i : Int))) bitG id (fun _ _ => True) (fun i a x hx _ => ?_) (fun a _ => by simp [M_spec_l6MaskL1]) 0 trivial (by omega)
    have hlt := (List.getElem?_eq_some_iff.1 hx).1
    have h1 : decide ((i : Int) < l.length) = true := by simp [hlt]
    have h2 := h0 x (List.mem_of_getElem? hx)
    have h3 : IntKind.wrap .u64 x = x := w64u_eq h2.1 (by omega)
    simp only [M_spec_l6MaskL1, h1, cond_true, geti_nat, hx, Option.bind_some, h3, grd_t h2.1]
    rw [w64_eq (n := (i : Int) + 1) (by omega) (by omega)]
    exact ⟨trivial, rfl⟩
  rw [this]; rfl
def wtG (u s : Int) (i : Nat) (d a : Int) : Int := if bits .and .i64 (Int.fdiv s (2 ^ (min i (IntKind.bits .i64)))) 1 == 1 then IntKind.wrap .i64 (a * d) else IntKind.wrap .i64 (a * IntKind.wrap .i64 (u - d))
def weightP (o : TOutage) (s : Int) : Int := foldI (wtG o.Unit s) 0 o.Down 1
theorem p_impl_weight (o : TOutage) (s : Int) (hl : o.Down.length ≤ 1048576) : M_impl_Outage_weight o s = some (weightP o s) := by
  unfold M_impl_Outage_weight
  have : iter (M_impl_Outage_weightL1 o s) N0 (1, 0) = some (weightP o s) := by
    refine iter_foldI (f := M_impl_Outage_weightL1 o s) o.Down (fun i (a : Int) => (a, (i : Int))) (wtG o.Unit s) id (fun _ _ => True) (fun i a x hx _ => ?_) (fun a _ => by simp [M_impl_Outage_weightL1]) 1 trivial (by omega)
    have hlt := (List.getElem?_eq_some_iff.1 hx).1
    have h1 : decide ((i : Int) < o.Down.length) = true := by simp [hlt]
    have h2 : (0 : Int) ≤ (i : Int) := by omega
    simp only [M_impl_Outage_weightL1, h1, cond_true, geti_nat, hx, Option.bind_some, grd_t h2, Int.toNat_natCast]
    rw [w64_eq (n := (i : Int) + 1) (by omega) (by omega)]
    refine ⟨trivial, ?_⟩
    unfold wtG
    rcases bt (bits .and .i64 (Int.fdiv s (2 ^ (min i (IntKind.bits .i64)))) 1 == 1) with e | e <;> simp only [e] <;> rfl
  rw [this]; rfl
theorem p_spec_weight (o : TOutage) (s : Int) (hl : o.Down.length ≤ 1048576) : M_spec_l16Weight o s = some (weightP o s) := by
  unfold M_spec_l16Weight
  have : iter (M_spec_l16WeightL1 o s) N0 (1, 0) = some (weightP o s) := by
    refine iter_foldI (f := M_spec_l16WeightL1 o s) o.Down (fun i (a : Int) => (a, (i : Int))) (wtG o.Unit s) id (fun _ _ => True) (fun i a x hx _ => ?_) (fun a _ => by simp [M_spec_l16WeightL1]) 1 trivial (by omega)
    have hlt := (List.getElem?_eq_some_iff.1 hx).1
    have h1 : decide ((i : Int) < o.Down.length) = true := by simp [hlt]
    have h2 : (0 : Int) ≤ (i : Int) := by omega
    have h3 : IntKind.wrap .u64 (i : Int) = (i : Int) := w64u_eq h2 (by omega)
    simp only [M_spec_l16WeightL1, h1, cond_true, geti_nat, hx, Option.bind_some, h3, grd_t h2, Int.toNat_natCast]
    rw [w64_eq (n := (i : Int) + 1) (by omega) (by omega)]
    refine ⟨trivial, ?_⟩
    unfold wtG
    rcases bt (bits .and .i64 (Int.fdiv s (2 ^ (min i (IntKind.bits .i64)))) 1 == 1) with e | e <;> simp only [e] <;> rfl
  rw [this]; rfl
end Vs

namespace Vs
open Go
def stW (n : TNetwork) (o : TOutage) (l : List Int) : Int × Bool := if outOk n o && setB l o.Down.length then (weightP o (maskP l), true) else (0, false)
theorem p_impl_StateWeight (n : TNetwork) (o : TOutage) (l : List Int) (hz : z_Network n ≤ 1048576) (ho : o.Down.length ≤ 1048576) (hl : l.length ≤ 1048576) : M_impl_StateWeight n o l = some (stW n o l) := by
  unfold M_impl_StateWeight stW
  simp only [p_impl_Outage n o hz ho, Option.bind_some, p_isSet l o.Down.length (by omega) (by omega) hl]
  rcases bt (outOk n o) with e1 | e1
  · rcases bt (setB l o.Down.length) with e2 | e2
    · simp only [e1, e2, Bool.not_true, cond_false, Option.bind_some, p_set l (fun x hx => (setB_mem e2 x hx).1) hl, p_impl_weight o _ ho]
      rfl
    · simp [e1, e2]
  · simp [e1]
theorem p_spec_StateWeight (n : TNetwork) (o : TOutage) (l : List Int) (hz : z_Network n ≤ 1048576) (ho : o.Down.length ≤ 1048576) (hl : l.length ≤ 1048576) : M_spec_StateWeight n o l = some (stW n o l) := by
  unfold M_spec_StateWeight stW
  simp only [p_spec_Outage n o hz ho, Option.bind_some]
  rw [w64_eq (n := (o.Down.length : Int) - 1) (by omega) (by omega)]
  simp only [p_l1Rising l o.Down.length (by omega) (by omega) hl]
  rcases bt (outOk n o) with e1 | e1
  · rcases bt (setB l o.Down.length) with e2 | e2
    · simp only [e1, e2, Bool.not_true, cond_false, Option.bind_some, p_l6Mask l (fun x hx => ⟨(setB_mem e2 x hx).1, by have := (setB_mem e2 x hx).2; omega⟩) hl, p_spec_weight o _ ho]
      rfl
    · simp [e1, e2]
  · simp [e1]
theorem p_FnExactStateWeight (n : TNetwork) (o : TOutage) (l : List Int) (hn : ok_Network n) (ho : ok_Outage o) (hl : ok_IntS l) : M_laws_FnExactStateWeight n o l = some true := by
  unfold M_laws_FnExactStateWeight
  rw [p_szNetwork n _ (by omega) (by omega) hn]
  simp only [Option.bind_some]
  by_cases h : (1048576 : Int) - z_Network n < 0
  · simp [h]
  · simp only [h, if_false, decide_false, cond_false]
    rw [p_szOutage o _ (by omega) (by omega) ho]
    simp only [Option.bind_some]
    by_cases h2 : (1048576 : Int) - z_Network n - z_Outage o < 0
    · simp [h2]
    · simp only [h2, if_false, decide_false, cond_false]
      by_cases h3 : (1048576 : Int) < (l.length : Int)
      · simp [h3]
      · have z1 : z_Network n ≤ 1048576 := by omega
        have z2 : z_Outage o ≤ 1048576 := by omega
        have z4 : z_IntS l ≤ 1048576 := by unfold z_IntS; omega
        have z3 : o.Down.length ≤ 1048576 := z2
        have z5 : l.length ≤ 1048576 := z4
        simp only [h3, if_false, decide_false, cond_false, p_toNetwork n z1, p_toOutage o z2, p_toIntS l z4, Option.bind_some, p_spec_StateWeight n o l z1 z3 z5, p_impl_StateWeight n o l z1 z3 z5, p_eqNetwork n z1, p_eqOutage o z2, p_eqIntS l z4]
        simp
end Vs

namespace Vs
open Go
theorem exists_map {α : Type} (e : α → AV) (p : α → Prop) : ∀ (xs : List AV), (∀ x ∈ xs, ∃ t, x = e t ∧ p t) → ∃ ts : List α, xs = ts.map e ∧ ∀ t ∈ ts, p t
  | [], _ => ⟨[], rfl, by simp⟩
  | x :: xs, h => by
    obtain ⟨t, h1, h2⟩ := h x (by simp)
    obtain ⟨ts, h3, h4⟩ := exists_map e p xs fun y hy => h y (by simp [hy])
    exact ⟨t :: ts, by simp [h1, h3], fun s hs => by
      rcases List.mem_cons.1 hs with rfl | hs
      · exact h2
      · exact h4 s hs⟩
theorem FitsL_cons {l : Lf} {ls : List Lf} : ∀ {al : List AV}, FitsL (l :: ls) al → ∃ a al', al = a :: al' ∧ Fits l a ∧ FitsL ls al'
  | a :: al, h => ⟨a, al, rfl, h.1, h.2⟩
  | [], h => h.elim
theorem FitsL_nil : ∀ {al : List AV}, FitsL [] al → al = []
  | [], _ => rfl
  | _ :: _, h => h.elim
theorem i64_of_wf {n : Int} (h : (Lit.int .i64 n).wf = true) : I64 n := by
  simpa [Lit.wf, IntKind.min, IntKind.max, IntKind.signed, IntKind.bits, I64] using h
theorem Fits_i64 {a : AV} (h : Fits (.int .i64) a) : ∃ n, a = .i n ∧ I64 n := by
  obtain ⟨n, h1, h2⟩ := h
  exact ⟨n, h1, i64_of_wf h2⟩
theorem rec3 {α : Type} (e : α → AV) (mk : Int → Int → Int → α) (he : ∀ a b c, e (mk a b c) = .agg [.i a, .i b, .i c]) {y : AV} (h : FitsA (false, [.sl true [.int .i64, .int .i64, .int .i64]]) y) : ∃ ts : List α, y = .lst .o 3 (ts.map e) ∧ ts.length ≤ maxLen := by
  obtain ⟨⟨xs, rfl, hl, hx⟩, _⟩ := h.2 rfl
  obtain ⟨ts, rfl, _⟩ := exists_map e (fun _ => True) xs fun x hxm => by
    obtain ⟨cs, rfl, hc⟩ := (hx x hxm).1 rfl
    obtain ⟨_, _, rfl, f1, hc⟩ := FitsL_cons hc
    obtain ⟨_, _, rfl, f2, hc⟩ := FitsL_cons hc
    obtain ⟨_, _, rfl, f3, hc⟩ := FitsL_cons hc
    obtain rfl := FitsL_nil hc
    obtain ⟨a, rfl, _⟩ := Fits_i64 f1
    obtain ⟨b, rfl, _⟩ := Fits_i64 f2
    obtain ⟨c, rfl, _⟩ := Fits_i64 f3
    exact ⟨mk a b c, (he a b c).symm, trivial⟩
  rw [List.length_map] at hl
  exact ⟨ts, rfl, hl⟩
theorem ints {y : AV} (h : FitsA (false, [.sl false [.int .i64]]) y) : ∃ ts : List Int, y = .lst .o 1 (ts.map AV.i) ∧ ts.length ≤ maxLen := by
  obtain ⟨⟨xs, rfl, hl, hx⟩, _⟩ := h.2 rfl
  obtain ⟨ts, rfl, _⟩ := exists_map AV.i (fun _ => True) xs fun x hxm => by
    obtain ⟨a, rfl, _⟩ := Fits_i64 ((hx x hxm).2 rfl).1
    exact ⟨a, rfl, trivial⟩
  rw [List.length_map] at hl
  exact ⟨ts, rfl, hl⟩
theorem one3 {α : Type} (e : α → AV) (mk : Int → Int → Int → α) (he : ∀ a b c, e (mk a b c) = .agg [.i a, .i b, .i c]) {y : AV} (h : FitsA (true, [.int .i64, .int .i64, .int .i64]) y) : ∃ t : α, y = e t := by
  obtain ⟨cs, rfl, hc⟩ := h.1 rfl
  obtain ⟨_, _, rfl, f1, hc⟩ := FitsL_cons hc
  obtain ⟨_, _, rfl, f2, hc⟩ := FitsL_cons hc
  obtain ⟨_, _, rfl, f3, hc⟩ := FitsL_cons hc
  obtain rfl := FitsL_nil hc
  obtain ⟨a, rfl, _⟩ := Fits_i64 f1
  obtain ⟨b, rfl, _⟩ := Fits_i64 f2
  obtain ⟨c, rfl, _⟩ := Fits_i64 f3
  exact ⟨mk a b c, (he a b c).symm⟩
theorem int1 {y : AV} (h : FitsA (false, [.int .i64]) y) : ∃ n : Int, y = .i n := by
  obtain ⟨⟨n, rfl, _⟩, _⟩ := h.2 rfl
  exact ⟨n, rfl⟩
end Vs

