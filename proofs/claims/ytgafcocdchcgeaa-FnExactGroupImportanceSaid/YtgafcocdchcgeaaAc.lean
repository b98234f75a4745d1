/-
  Part of the proof that the law FnExactGroupImportance returns true at every input; no condition beside the row's own.
-/
import Derived.Test.YtgafcocdchcgeaaFe
import Derived.Test.YtgafcocdchcgeaaAa
set_option linter.defProp false
set_option linter.unusedSimpArgs false
set_option linter.unusedVariables false
namespace Vs
open Go
def z_StringS (xs : (List ByteArray)) : Nat := xs.length + (xs.map fun x => x.size).sum
def ok_StringS (xs : (List ByteArray)) : Prop := xs.length ≤ 9223372036854775807 ∧ ∀ x ∈ xs, x.size ≤ 9223372036854775807
theorem p_szStringS (xs : (List ByteArray)) (l : Int) (h1 : 0 ≤ l) (h2 : l ≤ 1048576) (hs : ok_StringS xs) : M_laws_szStringS xs l = some (if l - z_StringS xs < 0 then (-1 : Int) else l - z_StringS xs) := by
  unfold M_laws_szStringS
  have hs1 := hs.1
  rw [w64_eq (by omega) (by omega)]
  simp only [cond_ite, decide_eq_true_eq]
  by_cases h : l - (xs.length : Int) < 0
  · rw [if_pos h, if_pos (by unfold z_StringS; omega)]
  · rw [if_neg h, sz_loop (f := M_laws_szStringSL1 xs) xs (fun x => x.size) (fun i x l' hx h3 h4 => by
      have hlt := (List.getElem?_eq_some_iff.1 hx).1
      have h1 : decide ((i : Int) < xs.length) = true := by simp [hlt]
      have hx2 := hs.2 x (List.mem_of_getElem? hx)
      simp only [M_laws_szStringSL1, h1, cond_true, geti_nat, hx, Option.bind_some, cond_ite, decide_eq_true_eq]
      rw [w64_eq (by omega) (by omega), w64_eq (by omega) (by omega)]
      by_cases h5 : l' - (x.size : Int) < 0
      · simp only [if_pos h5, if_true]
      · simp only [if_neg h5, if_true]; rfl) (fun l => by simp [M_laws_szStringSL1]) _ (by omega) (by omega) (by omega)]
    have e : l - (xs.length : Int) - ((xs.map fun x => x.size).sum : Nat) = l - (z_StringS xs : Int) := by unfold z_StringS; omega
    rw [e]
    by_cases h5 : l - (z_StringS xs : Int) < 0
    · simp only [if_pos h5, Option.bind_some]
    · simp only [if_neg h5, Option.bind_some]
theorem p_toStringS (xs : (List ByteArray)) (hl : z_StringS xs ≤ 1048576) : M_laws_toStringS xs = some xs := by
  unfold M_laws_toStringS
  have hlen : xs.length ≤ 1048576 := by unfold z_StringS at hl; omega
  have key := fun l0 (h0 : l0.length = xs.length) => iter_copy (f := M_laws_toStringSL1 xs) xs id l0 h0 (fun i l x y hx hy hll => by
    have hlt := (List.getElem?_eq_some_iff.1 hx).1
    have h1 : decide ((i : Int) < xs.length) = true := by simp [hlt]
    have h2 : (0 ≤ (i : Int) ∧ (i : Int) < (l.length : Int)) := by omega
    simp only [M_laws_toStringSL1, h1, cond_true, geti_nat, hx, Option.bind_some, grd_t h2, Int.toNat_natCast, hy, bnd, id]
    rw [w64_eq (by omega) (by omega)]; rfl) (fun l => by simp [M_laws_toStringSL1]) (by omega)
  rw [grd_t (by omega)]
  simp only [Option.bind_some, bnd]
  rw [key _ (by simp)]; simp
theorem p_eqStringS (xs : (List ByteArray)) (hl : z_StringS xs ≤ 1048576) : M_laws_eqStringS xs xs = some true := by
  unfold M_laws_eqStringS
  have hlen : xs.length ≤ 1048576 := by unfold z_StringS at hl; omega
  rw [eq_loop (f := M_laws_eqStringSL1 xs xs) xs (fun i x hx => by
    have hlt := (List.getElem?_eq_some_iff.1 hx).1
    have h1 : decide ((i : Int) < xs.length) = true := by simp [hlt]
    simp only [M_laws_eqStringSL1, h1, cond_true, geti_nat, hx, Option.bind_some, beq_self_eq_true, Bool.not_true, cond_false]
    rw [w64_eq (by omega) (by omega)]; rfl) (by simp [M_laws_eqStringSL1]) (by omega)]
  simp
theorem p_toFiber (x : TFiber) : M_laws_toFiber x = some x := by unfold M_laws_toFiber; rfl
theorem p_eqFiber (x : TFiber) : M_laws_eqFiber x x = some true := by unfold M_laws_eqFiber; simp
def z_FiberS (xs : (List TFiber)) : Nat := xs.length
def ok_FiberS (xs : (List TFiber)) : Prop := xs.length ≤ 9223372036854775807
theorem p_szFiberS (xs : (List TFiber)) (l : Int) (h1 : 0 ≤ l) (h2 : l ≤ 1048576) (hs : ok_FiberS xs) : M_laws_szFiberS xs l = some (if l - z_FiberS xs < 0 then (-1 : Int) else l - z_FiberS xs) := by
  unfold M_laws_szFiberS
  unfold ok_FiberS at hs
  rw [w64_eq (by omega) (by omega)]
  simp only [cond_ite, decide_eq_true_eq]
  by_cases h : l - (xs.length : Int) < 0
  · rw [if_pos h, if_pos (show l - (z_FiberS xs : Int) < 0 from h)]
  · rw [if_neg h, if_neg (show ¬ l - (z_FiberS xs : Int) < 0 from h)]; rfl
theorem p_toFiberS (xs : (List TFiber)) (hl : z_FiberS xs ≤ 1048576) : M_laws_toFiberS xs = some xs := by
  unfold M_laws_toFiberS
  have hlen : xs.length ≤ 1048576 := by unfold z_FiberS at hl; omega
  have key := fun l0 (h0 : l0.length = xs.length) => iter_copy (f := M_laws_toFiberSL1 xs) xs id l0 h0 (fun i l x y hx hy hll => by
    have hlt := (List.getElem?_eq_some_iff.1 hx).1
    have h1 : decide ((i : Int) < xs.length) = true := by simp [hlt]
    have h2 : (0 ≤ (i : Int) ∧ (i : Int) < (l.length : Int)) := by omega
    have hto : M_laws_toFiber x = some x := p_toFiber x
    simp only [M_laws_toFiberSL1, h1, cond_true, geti_nat, hx, Option.bind_some, grd_t h2, Int.toNat_natCast, hy, hto, bnd, id]
    rw [w64_eq (by omega) (by omega)]; rfl) (fun l => by simp [M_laws_toFiberSL1]) (by omega)
  rw [grd_t (by omega)]
  simp only [Option.bind_some, bnd]
  rw [key _ (by simp)]; simp
theorem p_eqFiberS (xs : (List TFiber)) (hl : z_FiberS xs ≤ 1048576) : M_laws_eqFiberS xs xs = some true := by
  unfold M_laws_eqFiberS
  have hlen : xs.length ≤ 1048576 := by unfold z_FiberS at hl; omega
  rw [eq_loop (f := M_laws_eqFiberSL1 xs xs) xs (fun i x hx => by
    have hlt := (List.getElem?_eq_some_iff.1 hx).1
    have h1 : decide ((i : Int) < xs.length) = true := by simp [hlt]
    have he : M_laws_eqFiber x x = some true := p_eqFiber x
    simp only [M_laws_eqFiberSL1, h1, cond_true, geti_nat, hx, Option.bind_some, he, Bool.not_true, cond_false]
    rw [w64_eq (by omega) (by omega)]; rfl) (by simp [M_laws_eqFiberSL1]) (by omega)]
  simp
def z_Network (x : TNetwork) : Nat := z_StringS x.Nodes + z_FiberS x.Fibers
def ok_Network (x : TNetwork) : Prop := ok_StringS x.Nodes ∧ ok_FiberS x.Fibers
theorem p_szNetwork (x : TNetwork) (l : Int) (h1 : 0 ≤ l) (h2 : l ≤ 1048576) (hs : ok_Network x) : M_laws_szNetwork x l = some (if l - z_Network x < 0 then (-1 : Int) else l - z_Network x) := by
  unfold M_laws_szNetwork
  obtain ⟨hs0, hs1⟩ := hs
  rw [p_szStringS _ _ (by omega) (by omega) hs0]
  simp only [Option.bind_some]
  by_cases h10 : l - (z_StringS x.Nodes : Int) < 0
  · rw [if_pos h10, if_pos (show l - (z_Network x : Int) < 0 by unfold z_Network; omega)]; simp
  · simp only [if_neg h10]
    simp only [h10, decide_false, cond_false]
    rw [p_szFiberS _ _ (by omega) (by omega) hs1]
    simp only [Option.bind_some]
    by_cases h11 : l - (z_StringS x.Nodes : Int) - (z_FiberS x.Fibers : Int) < 0
    · rw [if_pos h11, if_pos (show l - (z_Network x : Int) < 0 by unfold z_Network; omega)]; simp
    · simp only [if_neg h11]
      simp only [h11, decide_false, cond_false]
      have e : l - (z_StringS x.Nodes : Int) - (z_FiberS x.Fibers : Int) = l - (z_Network x : Int) := by unfold z_Network; omega
      rw [e, if_neg (by omega)]
theorem p_toNetwork (x : TNetwork) (hl : z_Network x ≤ 1048576) : M_laws_toNetwork x = some x := by
  unfold M_laws_toNetwork
  simp only [p_toStringS x.Nodes (by unfold z_Network at hl; omega), p_toFiberS x.Fibers (by unfold z_Network at hl; omega), Option.bind_some]
theorem p_eqNetwork (x : TNetwork) (hl : z_Network x ≤ 1048576) : M_laws_eqNetwork x x = some true := by
  unfold M_laws_eqNetwork
  simp [p_eqStringS x.Nodes (by unfold z_Network at hl; omega), p_eqFiberS x.Fibers (by unfold z_Network at hl; omega)]
def z_IntS (xs : (List Int)) : Nat := xs.length
def ok_IntS (xs : (List Int)) : Prop := xs.length ≤ 9223372036854775807
theorem p_szIntS (xs : (List Int)) (l : Int) (h1 : 0 ≤ l) (h2 : l ≤ 1048576) (hs : ok_IntS xs) : M_laws_szIntS xs l = some (if l - z_IntS xs < 0 then (-1 : Int) else l - z_IntS xs) := by
  unfold M_laws_szIntS
  unfold ok_IntS at hs
  rw [w64_eq (by omega) (by omega)]
  simp only [cond_ite, decide_eq_true_eq]
  by_cases h : l - (xs.length : Int) < 0
  · rw [if_pos h, if_pos (show l - (z_IntS xs : Int) < 0 from h)]
  · rw [if_neg h, if_neg (show ¬ l - (z_IntS xs : Int) < 0 from h)]; rfl
theorem p_toIntS (xs : (List Int)) (hl : z_IntS xs ≤ 1048576) : M_laws_toIntS xs = some xs := by
  unfold M_laws_toIntS
  have hlen : xs.length ≤ 1048576 := by unfold z_IntS at hl; omega
  have key := fun l0 (h0 : l0.length = xs.length) => iter_copy (f := M_laws_toIntSL1 xs) xs id l0 h0 (fun i l x y hx hy hll => by
    have hlt := (List.getElem?_eq_some_iff.1 hx).1
    have h1 : decide ((i : Int) < xs.length) = true := by simp [hlt]
    have h2 : (0 ≤ (i : Int) ∧ (i : Int) < (l.length : Int)) := by omega
    simp only [M_laws_toIntSL1, h1, cond_true, geti_nat, hx, Option.bind_some, grd_t h2, Int.toNat_natCast, hy, bnd, id]
    rw [w64_eq (by omega) (by omega)]; rfl) (fun l => by simp [M_laws_toIntSL1]) (by omega)
  rw [grd_t (by omega)]
  simp only [Option.bind_some, bnd]
  rw [key _ (by simp)]; simp
theorem p_eqIntS (xs : (List Int)) (hl : z_IntS xs ≤ 1048576) : M_laws_eqIntS xs xs = some true := by
  unfold M_laws_eqIntS
  have hlen : xs.length ≤ 1048576 := by unfold z_IntS at hl; omega
  rw [eq_loop (f := M_laws_eqIntSL1 xs xs) xs (fun i x hx => by
    have hlt := (List.getElem?_eq_some_iff.1 hx).1
    have h1 : decide ((i : Int) < xs.length) = true := by simp [hlt]
    simp only [M_laws_eqIntSL1, h1, cond_true, geti_nat, hx, Option.bind_some, bne_self_eq_false, cond_false]
    rw [w64_eq (by omega) (by omega)]; rfl) (by simp [M_laws_eqIntSL1]) (by omega)]
  simp
def z_Outage (x : TOutage) : Nat := z_IntS x.Down
def ok_Outage (x : TOutage) : Prop := ok_IntS x.Down
theorem p_szOutage (x : TOutage) (l : Int) (h1 : 0 ≤ l) (h2 : l ≤ 1048576) (hs : ok_Outage x) : M_laws_szOutage x l = some (if l - z_Outage x < 0 then (-1 : Int) else l - z_Outage x) := by
  unfold M_laws_szOutage
  have hs0 : ok_IntS x.Down := hs
  rw [p_szIntS _ _ (by omega) (by omega) hs0]
  simp only [Option.bind_some]
  by_cases h10 : l - (z_IntS x.Down : Int) < 0
  · rw [if_pos h10, if_pos (show l - (z_Outage x : Int) < 0 by unfold z_Outage; omega)]; simp
  · simp only [if_neg h10]
    simp only [h10, decide_false, cond_false]
    have e : l - (z_IntS x.Down : Int) = l - (z_Outage x : Int) := by unfold z_Outage; omega
    rw [e, if_neg (by omega)]
theorem p_toOutage (x : TOutage) (hl : z_Outage x ≤ 1048576) : M_laws_toOutage x = some x := by
  unfold M_laws_toOutage
  simp only [p_toIntS x.Down (by unfold z_Outage at hl; omega), Option.bind_some]
theorem p_eqOutage (x : TOutage) (hl : z_Outage x ≤ 1048576) : M_laws_eqOutage x x = some true := by
  unfold M_laws_eqOutage
  simp [p_eqIntS x.Down (by unfold z_Outage at hl; omega)]
end Vs

namespace Vs
open Go
def wi (x a b : Int) : Bool := decide (a ≤ x) && decide (x ≤ b)
theorem wi_iff {x a b : Int} : wi x a b = true ↔ a ≤ x ∧ x ≤ b := by simp [wi]
theorem wi_false {x a b : Int} : wi x a b = false ↔ ¬ (a ≤ x ∧ x ≤ b) := by rw [← wi_iff]; simp
theorem p_within (x a b : Int) : M_impl_within x a b = some (wi x a b) := by
  unfold M_impl_within wi; by_cases h : a ≤ x <;> simp [h]
theorem p_l1In (x a b : Int) : M_spec_l1In x a b = some (wi x a b) := by
  unfold M_spec_l1In wi; by_cases h : a ≤ x <;> simp [h]
def letB (c : UInt8) : Bool := decide (97 ≤ c.toNat) && decide (c.toNat ≤ 122)
def digB (c : UInt8) : Bool := decide (48 ≤ c.toNat) && decide (c.toNat ≤ 57)
def nameBad (i : Nat) (c : UInt8) : Bool := !letB c && (!digB c || i == 0)
def nameB (s : ByteArray) : Bool := !anyI nameBad s.data.toList && wi s.size 1 8
theorem getz_nat (s : ByteArray) (i : Nat) : getz s (i : Int) = s.data.toList[i]? := by
  unfold getz
  rw [if_pos (by omega), Int.toNat_natCast]
  by_cases h : i < s.size
  · have h2 : i < s.data.toList.length := by simpa using h
    rw [getElem?_pos s i h, List.getElem?_eq_getElem h2]
    rfl
  · have h2 : ¬ i < s.data.toList.length := by simpa using h
    rw [getElem?_neg s i h, List.getElem?_eq_none (Nat.le_of_not_lt h2)]
theorem size_list (s : ByteArray) : s.size = s.data.toList.length := by show s.data.size = s.data.toList.length; rw [Array.length_toList]
theorem letB_c (c : UInt8) : letB c = (decide (97 ≤ (c.toNat : Int)) && decide ((c.toNat : Int) ≤ 122)) := by
  unfold letB
  congr 1 <;> exact decide_eq_decide.2 (by omega)
theorem digB_c (c : UInt8) : digB c = (decide (48 ≤ (c.toNat : Int)) && decide ((c.toNat : Int) ≤ 57)) := by
  unfold digB
  congr 1 <;> exact decide_eq_decide.2 (by omega)
theorem p_isName (s : ByteArray) (hl : s.size ≤ 1048576) : M_impl_isName s = some (nameB s) := by
  unfold M_impl_isName nameB
  rw [size_list] at *
  rw [iter_anyI (f := M_impl_isNameL1 s) s.data.toList nameBad (.inr false) (.inl ()) (fun i c hc _ => by
    have hlt := (List.getElem?_eq_some_iff.1 hc).1
    have h1 : decide ((i : Int) < s.size) = true := decide_eq_true (by rw [size_list]; omega)
    simp only [M_impl_isNameL1, h1, cond_true, getz_nat, hc, Option.bind_some, nameBad, letB_c, digB_c]
    rw [w64_eq (by omega) (by omega)]
    have hi : ((i : Int) == 0) = (i == 0) := by rw [Bool.eq_iff_iff]; simp
    rw [hi]
    cases decide (97 ≤ (c.toNat : Int)) <;> cases decide ((c.toNat : Int) ≤ 122) <;> cases decide (48 ≤ (c.toNat : Int)) <;> cases decide ((c.toNat : Int) ≤ 57) <;> cases (i == 0) <;> rfl) (by simp [M_impl_isNameL1]) (by omega)]
  rw [← size_list]
  cases anyI nameBad s.data.toList <;> simp [p_within]
theorem p_l2Sign (c : UInt8) : M_spec_l2Sign (c.toNat : Int) = some (letB c || digB c) := by
  unfold M_spec_l2Sign
  simp only [letB_c, digB_c]
  cases decide (97 ≤ (c.toNat : Int)) <;> cases decide ((c.toNat : Int) ≤ 122) <;> cases decide (48 ≤ (c.toNat : Int)) <;> rfl
theorem fstc (c : UInt8) : (cond (decide ((c.toNat : Int) < 97)) (some true) (some (decide (122 < (c.toNat : Int)))) : Option Bool) = some (!letB c) := by
  rw [letB_c]
  by_cases h1 : (c.toNat : Int) < 97
  · have h2 : ¬ 97 ≤ (c.toNat : Int) := by omega
    simp [h1, h2]
  · have h2 : 97 ≤ (c.toNat : Int) := by omega
    simp only [h1, decide_false, cond_false, h2, decide_true, Bool.true_and]
    by_cases h3 : 122 < (c.toNat : Int)
    · have h4 : ¬ (c.toNat : Int) ≤ 122 := by omega
      simp [h3, h4]
    · have h4 : (c.toNat : Int) ≤ 122 := by omega
      simp [h3, h4]
theorem p_l2Name (s : ByteArray) (hl : s.size ≤ 1048576) : M_spec_l2Name s = some (nameB s) := by
  unfold M_spec_l2Name nameB
  simp only [p_l1In, Option.bind_some]
  rcases bt (wi s.size 1 8) with hw | hw
  · simp only [hw, Bool.not_true, cond_false, Bool.and_true]
    have hs : 0 < s.data.toList.length := by rw [← size_list]; have := (wi_iff.1 hw).1; omega
    have h0 : s.data.toList[0]? = some s.data.toList[0] := List.getElem?_eq_getElem hs
    have g0 : getz s 0 = some s.data.toList[0] := by rw [← h0]; exact getz_nat s 0
    simp only [g0, Option.bind_some]
    have key := iter_anyI (f := M_spec_l2NameL1 s) s.data.toList (fun _ c => !(letB c || digB c)) (.inr false) (.inl ()) (fun i c hc _ => by
      have hlt := (List.getElem?_eq_some_iff.1 hc).1
      have h1 : decide ((i : Int) < s.size) = true := decide_eq_true (by rw [size_list]; omega)
      rw [size_list] at hl
      simp only [M_spec_l2NameL1, h1, cond_true, getz_nat, hc, Option.bind_some, p_l2Sign]
      rw [w64_eq (by omega) (by omega)]
      cases letB c <;> cases digB c <;> rfl) (by simp [M_spec_l2NameL1]) (by rw [size_list] at hl; omega)
    rw [fstc]
    simp only [Option.bind_some, key]
    rcases bt (letB s.data.toList[0]) with hL | hL
    · simp only [hL, Bool.not_true, cond_false]
      have e : anyI (fun _ c => !(letB c || digB c)) s.data.toList = anyI nameBad s.data.toList := by
        refine anyI_congr fun i c hc _ => ?_
        unfold nameBad
        by_cases hi : i = 0
        · subst hi; rw [h0] at hc; cases hc; rw [hL]; rfl
        · have : (i == 0) = false := by simpa using hi
          rw [this]
          cases letB c <;> cases digB c <;> rfl
      rw [e]
      cases anyI nameBad s.data.toList <;> rfl
    · have : anyI nameBad s.data.toList = true := anyI_iff.2 ⟨0, _, h0, by unfold nameBad; rw [hL]; simp⟩
      simp only [hL, this, Bool.not_false, cond_true, Bool.not_true]
  · simp [hw]
def idxZ (v : ByteArray) (xs : List ByteArray) : Option (Nat × ByteArray) := findI (fun _ x => x.toList == v.toList) xs
def fidx (v : ByteArray) (xs : List ByteArray) : Int := match idxZ v xs with | some q => (q.1 : Int) | none => -1
theorem p_l2Find (xs : List ByteArray) (v : ByteArray) (hl : xs.length ≤ 1048576) : M_spec_l2Find xs v = some (fidx v xs) := by
  unfold M_spec_l2Find fidx
  rw [iter_findI (f := M_spec_l2FindL1 xs v) xs (fun _ x => x.toList == v.toList) (fun i _ => (i : Int)) () (fun i x hx _ => by
    have hlt := (List.getElem?_eq_some_iff.1 hx).1
    have h1 : decide ((i : Int) < xs.length) = true := by simp [hlt]
    simp only [M_spec_l2FindL1, h1, cond_true, geti_nat, hx, Option.bind_some]
    rw [w64_eq (by omega) (by omega)]
    cases x.toList == v.toList <;> rfl) (by simp [M_spec_l2FindL1]) (by omega)]
  unfold idxZ
  cases findI (fun _ x => x.toList == v.toList) xs <;> rfl
theorem p_Contains_z (xs : List ByteArray) (v : ByteArray) (hl : xs.length ≤ 1048576) : M_slices_Contains_Lstring_string xs v = some (xs.any fun x => x.toList == v.toList) := by
  unfold M_slices_Contains_Lstring_string M_slices_Index_Lstring_string
  rw [iter_findI (f := M_slices_Index_Lstring_stringL1 xs v) xs (fun _ x => x.toList == v.toList) (fun i _ => (i : Int)) () (fun i x hx _ => by
    have hlt := (List.getElem?_eq_some_iff.1 hx).1
    have h1 : decide ((i : Int) < xs.length) = true := by simp [hlt]
    simp only [M_slices_Index_Lstring_stringL1, h1, cond_true, geti_nat, hx, Option.bind_some]
    rw [w64_eq (by omega) (by omega), show (v.toList == x.toList) = (x.toList == v.toList) from Bool.beq_comm ..]
    cases x.toList == v.toList <;> rfl) (by simp [M_slices_Index_Lstring_stringL1]) (by omega)]
  cases e : findI (fun _ x => x.toList == v.toList) xs with
  | none =>
    have := findI_none.1 e
    have h : (xs.any fun x => x.toList == v.toList) = false := by
      rw [← anyI_any (fun x : ByteArray => x.toList == v.toList), anyI_false]; exact this
    rw [h]; rfl
  | some q =>
    obtain ⟨i, x⟩ := q
    obtain ⟨h1, h2, _⟩ := findI_some.1 e
    have h : (xs.any fun x => x.toList == v.toList) = true := List.any_eq_true.2 ⟨x, List.mem_of_getElem? h1, h2⟩
    rw [h]; simp
def cmpI (x y : Int) : Int := if x < y then -1 else if y < x then 1 else 0
theorem p_cmp (x y : Int) : M_cmp_Compare_int x y = some (cmpI x y) := by
  unfold M_cmp_Compare_int M_cmp_isNaN_int cmpI
  by_cases h : x < y
  · simp [h]
  · by_cases h2 : y < x <;> simp [h, h2]
def cmpF (f g : TFiber) : Int := if f.A ≠ g.A then cmpI f.A g.A else if f.B ≠ g.B then cmpI f.B g.B else if f.Length ≠ g.Length then cmpI f.Length g.Length else cmpI f.Risk g.Risk
theorem cmpI_zero {x y : Int} : cmpI x y = 0 ↔ x = y := by
  unfold cmpI
  split
  · simp; omega
  · split
    · simp; omega
    · simp; omega
theorem p_compareFibers (f g : TFiber) : M_impl_compareFibers f g = some (cmpF f g) := by
  unfold M_impl_compareFibers
  simp only [p_cmp, Option.bind_some, bnd]
  unfold M_cmp_Or_int
  have key := iter_findI (f := M_cmp_Or_intL1 [cmpI f.A g.A, cmpI f.B g.B, cmpI f.Length g.Length, cmpI f.Risk g.Risk]) [cmpI f.A g.A, cmpI f.B g.B, cmpI f.Length g.Length, cmpI f.Risk g.Risk] (fun _ x => x != 0) (fun _ x => x) () (fun i x hx _ => by
    have hlt := (List.getElem?_eq_some_iff.1 hx).1
    have h1 : decide ((i : Int) < ([cmpI f.A g.A, cmpI f.B g.B, cmpI f.Length g.Length, cmpI f.Risk g.Risk].length : Nat)) = true := decide_eq_true (by omega)
    simp only [List.length_cons, List.length_nil] at hlt
    simp only [M_cmp_Or_intL1, h1, cond_true, geti_nat, hx, Option.bind_some]
    rw [w64_eq (by omega) (by omega)]
    cases x != 0 <;> rfl) (by simp [M_cmp_Or_intL1]) (by simp)
  rw [key]
  unfold cmpF findI
  simp only [List.zipIdx_cons, List.zipIdx_nil, List.find?_cons, List.find?_nil]
  by_cases h1 : f.A = g.A
  · rw [cmpI_zero.2 h1]
    by_cases h2 : f.B = g.B
    · rw [cmpI_zero.2 h2]
      by_cases h3 : f.Length = g.Length
      · rw [cmpI_zero.2 h3]
        by_cases h4 : f.Risk = g.Risk
        · simp [h1, h2, h3, h4, cmpI_zero.2]
        · have : (cmpI f.Risk g.Risk != 0) = true := bne_iff_ne.2 fun e => h4 (cmpI_zero.1 e)
          simp [h1, h2, h3, this]
      · have : (cmpI f.Length g.Length != 0) = true := bne_iff_ne.2 fun e => h3 (cmpI_zero.1 e)
        simp [h1, h2, h3, this]
    · have : (cmpI f.B g.B != 0) = true := bne_iff_ne.2 fun e => h2 (cmpI_zero.1 e)
      simp [h1, h2, this]
  · have : (cmpI f.A g.A != 0) = true := bne_iff_ne.2 fun e => h1 (cmpI_zero.1 e)
    simp [h1, this]
end Vs

namespace Vs
open Go
theorem slT_nat {α : Type} (xs : List α) (i : Nat) (h : i ≤ xs.length) : slT xs (i : Int) = some (xs.take i) := by
  unfold slT
  rw [if_pos ⟨by omega, by simpa using h⟩]; simp
theorem z_net {n : TNetwork} (h : z_Network n ≤ 1048576) : n.Nodes.length ≤ 1048576 ∧ n.Fibers.length ≤ 1048576 ∧ ∀ x ∈ n.Nodes, x.size ≤ 1048576 := by
  unfold z_Network z_StringS z_FiberS at h
  refine ⟨by omega, by omega, fun x hx => ?_⟩
  obtain ⟨i, hi, rfl⟩ := List.getElem_of_mem hx
  have : n.Nodes[i].size ≤ (n.Nodes.map fun x : ByteArray => x.size).sum := sum_ge (fun x : ByteArray => x.size) (xs := n.Nodes) (i := i) (x := n.Nodes[i]) (by simp [hi])
  omega
def nodeBad (n : TNetwork) (i : Nat) (x : ByteArray) : Bool := !nameB x || (n.Nodes.take i).any fun y => y.toList == x.toList
def fib1 (m : Nat) (f : TFiber) : Bool := decide (f.A < 0) || decide (f.B ≤ f.A) || decide ((m : Int) ≤ f.B) || !wi f.Length 1 5000 || !wi f.Risk 0 9
def fibBad (n : TNetwork) (i : Nat) (f : TFiber) : Bool := fib1 n.Nodes.length f || (decide (0 < i) && match n.Fibers[i - 1]? with | some g => decide (0 < cmpF g f) | none => false)
def netOk (n : TNetwork) : Bool := !anyI (nodeBad n) n.Nodes && !anyI (fibBad n) n.Fibers && wi n.Nodes.length 2 8 && decide (n.Fibers.length ≤ 14)
theorem p_IsValidNetwork (n : TNetwork) (hz : z_Network n ≤ 1048576) : M_impl_IsValidNetwork n = some (netOk n) := by
  obtain ⟨h1, h2, h3⟩ := z_net hz
  unfold M_impl_IsValidNetwork netOk
  rw [iter_anyI (f := M_impl_IsValidNetworkL1 n) n.Nodes (nodeBad n) (.inr false) (.inl ()) (fun i x hx _ => by
    have hlt := (List.getElem?_eq_some_iff.1 hx).1
    have e1 : decide ((i : Int) < n.Nodes.length) = true := by simp [hlt]
    simp only [M_impl_IsValidNetworkL1, e1, cond_true, geti_nat, hx, Option.bind_some, p_isName x (h3 x (List.mem_of_getElem? hx)), slT_nat n.Nodes i (Nat.le_of_lt hlt), p_Contains_z (n.Nodes.take i) x (by simp; omega), nodeBad]
    rw [w64_eq (by omega) (by omega)]
    rcases bt (nameB x) with e | e <;> rcases bt ((n.Nodes.take i).any (fun y => y.toList == x.toList)) with e' | e' <;> simp only [e, e'] <;> rfl) (by simp [M_impl_IsValidNetworkL1]) (by omega)]
  rcases bt (anyI (nodeBad n) n.Nodes) with hN | hN
  · simp [hN]
  · simp only [hN, Bool.false_eq_true, if_false, Option.bind_some, Bool.not_false, Bool.true_and]
    rw [iter_anyI (f := M_impl_IsValidNetworkL2 n) n.Fibers (fibBad n) (.inr false) (.inl ()) (fun i x hx _ => by
      have hlt := (List.getElem?_eq_some_iff.1 hx).1
      have e1 : decide ((i : Int) < n.Fibers.length) = true := by simp [hlt]
      simp only [M_impl_IsValidNetworkL2, e1, cond_true, geti_nat, hx, Option.bind_some, p_within]
      rw [w64_eq (n := (i : Int) + 1) (by omega) (by omega)]
      unfold fibBad fib1
      cases decide (x.A < 0)
      · cases decide (x.B ≤ x.A)
        · cases decide ((n.Nodes.length : Int) ≤ x.B)
          · cases wi x.Length 1 5000
            · rfl
            · cases wi x.Risk 0 9
              · rfl
              · by_cases hi : 0 < i
                · have hi' : decide ((0 : Int) < (i : Int)) = true := by simp [hi]
                  have hp : n.Fibers[i - 1]? = some n.Fibers[i - 1] := List.getElem?_eq_getElem (by omega)
                  have hw : IntKind.wrap .i64 ((i : Int) - 1) = ((i - 1 : Nat) : Int) := by rw [w64_eq (by omega) (by omega)]; omega
                  simp only [hi', cond_true, cond_false, Bool.not_true, hw, geti_nat, hp, Option.bind_some, p_compareFibers, hi, decide_true, Bool.true_and, Bool.false_or]
                  cases decide (0 < cmpF n.Fibers[i - 1] x) <;> rfl
                · have hi' : decide ((0 : Int) < (i : Int)) = false := by simp; omega
                  simp [hi', hi]
          · rfl
        · rfl
      · rfl) (by simp [M_impl_IsValidNetworkL2]) (by omega)]
    rcases bt (anyI (fibBad n) n.Fibers) with hF | hF
    · simp [hF]
    · simp only [hF, Bool.false_eq_true, if_false, Option.bind_some, Bool.not_false, Bool.true_and, p_within]
      have e : decide ((n.Fibers.length : Int) ≤ 14) = decide (n.Fibers.length ≤ 14) := decide_eq_decide.2 (by omega)
      rw [e]
      cases wi n.Nodes.length 2 8 <;> rfl
theorem find_dup (n : TNetwork) (i : Nat) (x : ByteArray) (hx : n.Nodes[i]? = some x) :
    (fidx x n.Nodes != (i : Int)) = (n.Nodes.take i).any fun y => y.toList == x.toList := by
  unfold fidx
  cases e : idxZ x n.Nodes with
  | none =>
    have := findI_none.1 e i x hx
    simp at this
  | some q =>
    obtain ⟨j, y⟩ := q
    obtain ⟨h1, h2, h3⟩ := findI_some.1 e
    simp only
    by_cases hj : j = i
    · subst hj
      have : ((n.Nodes.take j).any fun y => y.toList == x.toList) = false := by
        rw [List.any_eq_false]
        intro z hz
        obtain ⟨k, hk, rfl⟩ := List.getElem_of_mem hz
        simp only [List.length_take] at hk
        have := h3 k (n.Nodes.take j)[k] (by omega) (by rw [List.getElem_take]; exact List.getElem?_eq_getElem (by omega))
        rw [this]; simp
      rw [this]; simp
    · have hji : j < i := by
        rcases Nat.lt_trichotomy j i with h | h | h
        · exact h
        · exact (hj h).elim
        · have := h3 i x h hx
          simp at this
      have : ((n.Nodes.take i).any fun y => y.toList == x.toList) = true := List.any_eq_true.2 ⟨y, by
        have : (n.Nodes.take i)[j]? = some y := by rw [List.getElem?_take, if_pos hji]; exact h1
        exact List.mem_of_getElem? this, h2⟩
      rw [this]
      simp; omega
theorem p_l2Fiber (f : TFiber) (m : Nat) (hm : m ≤ 8) (hm2 : 2 ≤ m) : M_spec_l2Fiber f (m : Int) = some (!fib1 m f) := by
  unfold M_spec_l2Fiber fib1
  simp only [p_l1In, Option.bind_some]
  rw [w64_eq (n := (m : Int) - 1) (by omega) (by omega)]
  rcases bt (wi f.A 0 ((m : Int) - 1)) with h1 | h1
  · have h2 := wi_iff.1 h1
    rw [w64_eq (n := f.A + 1) (by omega) (by omega)]
    rcases bt (wi f.B (f.A + 1) ((m : Int) - 1)) with h3 | h3
    · have h4 := wi_iff.1 h3
      have a1 : decide (f.A < 0) = false := by simp; omega
      have a2 : decide (f.B ≤ f.A) = false := by simp; omega
      have a3 : decide ((m : Int) ≤ f.B) = false := by simp; omega
      simp only [h1, h3, a1, a2, a3, cond_true, Bool.false_or]
      cases wi f.Length 1 5000 <;> cases wi f.Risk 0 9 <;> rfl
    · have h4 := wi_false.1 h3
      simp only [h1, h3, cond_true, cond_false]
      by_cases a2 : f.B ≤ f.A
      · simp [a2]
      · have a3 : (m : Int) ≤ f.B := by omega
        simp [a3]
  · have h2 := wi_false.1 h1
    simp only [h1, cond_false]
    by_cases a1 : f.A < 0
    · simp [a1]
    · by_cases a2 : f.B ≤ f.A
      · simp [a2]
      · have a3 : (m : Int) ≤ f.B := by omega
        simp [a3]
structure FibOk (m : Int) (f : TFiber) : Prop where
  a0 : 0 ≤ f.A
  ab : f.A < f.B
  bm : f.B < m
  l1 : 1 ≤ f.Length
  l2 : f.Length ≤ 5000
  r0 : 0 ≤ f.Risk
  r9 : f.Risk ≤ 9
theorem fib1_ok {m : Nat} {f : TFiber} (h : fib1 m f = false) : FibOk m f := by
  unfold fib1 at h
  simp only [Bool.or_eq_false_iff, decide_eq_false_iff_not, Bool.not_eq_false', wi_iff] at h
  obtain ⟨⟨⟨⟨h1, h2⟩, h3⟩, h4, h5⟩, h6, h7⟩ := h
  exact ⟨by omega, by omega, by omega, h4, h5, h6, h7⟩
theorem p_before (f g : TFiber) (m : Nat) (hm : m ≤ 8) (hf : FibOk m f) (hg : FibOk m g) : ∃ r, M_spec_l2Before f g = some r ∧ decide (0 < r) = decide (0 < cmpF f g) := by
  obtain ⟨a1, a2, a3, a4, a5, a6, a7⟩ := hf
  obtain ⟨b1, b2, b3, b4, b5, b6, b7⟩ := hg
  have sgn : ∀ x y : Int, decide (0 < x - y) = decide (0 < cmpI x y) := by
    intro x y
    unfold cmpI
    by_cases h : x < y
    · rw [if_pos h]; exact decide_eq_decide.2 (by omega)
    · rw [if_neg h]
      by_cases h2 : y < x
      · rw [if_pos h2]; exact decide_eq_decide.2 (by omega)
      · rw [if_neg h2]; exact decide_eq_decide.2 (by omega)
  unfold M_spec_l2Before cmpF
  rw [w64_eq (n := f.A - g.A) (by omega) (by omega), w64_eq (n := f.B - g.B) (by omega) (by omega), w64_eq (n := f.Length - g.Length) (by omega) (by omega), w64_eq (n := f.Risk - g.Risk) (by omega) (by omega)]
  by_cases h1 : f.A = g.A
  · have e1 : (f.A != g.A) = false := by rw [h1]; simp
    by_cases h2 : f.B = g.B
    · have e2 : (f.B != g.B) = false := by rw [h2]; simp
      by_cases h3 : f.Length = g.Length
      · have e3 : (f.Length != g.Length) = false := by rw [h3]; simp
        exact ⟨f.Risk - g.Risk, by simp only [e1, e2, e3, cond_false], by simp only [h1, h2, h3, ne_eq, not_true, if_false]; exact sgn _ _⟩
      · have e3 : (f.Length != g.Length) = true := bne_iff_ne.2 h3
        exact ⟨f.Length - g.Length, by simp only [e1, e2, e3, cond_false, cond_true], by simp only [h1, h2, h3, ne_eq, not_true, not_false_eq_true, if_false, if_true]; exact sgn _ _⟩
    · have e2 : (f.B != g.B) = true := bne_iff_ne.2 h2
      exact ⟨f.B - g.B, by simp only [e1, e2, cond_false, cond_true], by simp only [h1, h2, ne_eq, not_true, not_false_eq_true, if_false, if_true]; exact sgn _ _⟩
  · have e1 : (f.A != g.A) = true := bne_iff_ne.2 h1
    exact ⟨f.A - g.A, by simp only [e1, cond_true], by simp only [h1, ne_eq, not_false_eq_true, if_true]; exact sgn _ _⟩
theorem p_l2Good (n : TNetwork) (hz : z_Network n ≤ 1048576) : M_spec_l2Good n = some (netOk n) := by
  obtain ⟨z1, z2, z3⟩ := z_net hz
  unfold M_spec_l2Good netOk
  simp only [p_l1In, Option.bind_some]
  rcases bt (wi n.Nodes.length 2 8) with hw | hw
  · have hw2 := wi_iff.1 hw
    have e : decide (14 < (n.Fibers.length : Int)) = !decide (n.Fibers.length ≤ 14) := by
      rw [← decide_not]; exact decide_eq_decide.2 (by omega)
    simp only [hw, e, Bool.not_true, cond_false, Option.bind_some, Bool.and_true]
    rcases bt (decide (n.Fibers.length ≤ 14)) with h14 | h14
    · simp only [h14, Bool.not_true, cond_false, Bool.and_true]
      rw [iter_anyI (f := M_spec_l2GoodL1 n) n.Nodes (nodeBad n) (.inr false) (.inl ()) (fun i x hx _ => by
        have hlt := (List.getElem?_eq_some_iff.1 hx).1
        have e1 : decide ((i : Int) < n.Nodes.length) = true := by simp [hlt]
        simp only [M_spec_l2GoodL1, e1, cond_true, geti_nat, hx, Option.bind_some, p_l2Name x (z3 x (List.mem_of_getElem? hx)), p_l2Find n.Nodes x z1, find_dup n i x hx, nodeBad]
        rw [w64_eq (by omega) (by omega)]
        rcases bt (nameB x) with e | e <;> rcases bt ((n.Nodes.take i).any (fun y => y.toList == x.toList)) with e' | e' <;> simp only [e, e'] <;> rfl) (by simp [M_spec_l2GoodL1]) (by omega)]
      rcases bt (anyI (nodeBad n) n.Nodes) with hN | hN
      · simp [hN]
      · simp only [hN, Bool.false_eq_true, if_false, Option.bind_some, Bool.not_false, Bool.true_and]
        rw [iter_anyI (f := M_spec_l2GoodL2 n) n.Fibers (fibBad n) (.inr false) (.inl ()) (fun i x hx hprev => by
          have hlt := (List.getElem?_eq_some_iff.1 hx).1
          have e1 : decide ((i : Int) < n.Fibers.length) = true := by simp [hlt]
          simp only [M_spec_l2GoodL2, e1, cond_true, geti_nat, hx, Option.bind_some, p_l2Fiber x n.Nodes.length (by omega) (by omega), Bool.not_not]
          rw [w64_eq (n := (i : Int) + 1) (by omega) (by omega)]
          unfold fibBad
          rcases bt (fib1 n.Nodes.length x) with h1 | h1
          · simp [h1]
          · simp only [h1, cond_false, Bool.false_or]
            by_cases hi : 0 < i
            · have hi' : decide ((0 : Int) < (i : Int)) = true := by simp [hi]
              have hp : n.Fibers[i - 1]? = some n.Fibers[i - 1] := List.getElem?_eq_getElem (by omega)
              have hw : IntKind.wrap .i64 ((i : Int) - 1) = ((i - 1 : Nat) : Int) := by rw [w64_eq (by omega) (by omega)]; omega
              have hb := hprev (i - 1) n.Fibers[i - 1] (by omega) hp
              unfold fibBad at hb
              simp only [Bool.or_eq_false_iff] at hb
              obtain ⟨r, r1, r2⟩ := p_before n.Fibers[i - 1] x n.Nodes.length (by omega) (fib1_ok hb.1) (fib1_ok h1)
              simp only [hi', cond_true, hw, geti_nat, hp, Option.bind_some, r1, r2, hi, decide_true, Bool.true_and]
              cases decide (0 < cmpF n.Fibers[i - 1] x) <;> rfl
            · have hi' : decide ((0 : Int) < (i : Int)) = false := by simp; omega
              simp [hi', hi]) (by simp [M_spec_l2GoodL2]) (by omega)]
        cases anyI (fibBad n) n.Fibers <;> rfl
    · simp [h14]
  · simp [hw]
end Vs

namespace Vs
open Go
theorem netOk_b {n : TNetwork} (h : netOk n = true) : 2 ≤ n.Nodes.length ∧ n.Nodes.length ≤ 8 ∧ n.Fibers.length ≤ 14 := by
  unfold netOk at h
  simp only [Bool.and_eq_true, decide_eq_true_eq, wi_iff] at h
  omega
theorem netOk_fib {n : TNetwork} (h : netOk n = true) {i : Nat} {f : TFiber} (hf : n.Fibers[i]? = some f) : FibOk n.Nodes.length f := by
  unfold netOk at h
  simp only [Bool.and_eq_true, Bool.not_eq_true'] at h
  have := anyI_false.1 h.1.1.2 i f hf
  unfold fibBad at this
  simp only [Bool.or_eq_false_iff] at this
  exact fib1_ok this.1
def idxs (r : Int) : Nat → List TFiber → List Int
  | _, [] => []
  | i, f :: fs => if f.Risk = r then (i : Int) :: idxs r (i + 1) fs else idxs r (i + 1) fs
theorem idxs_cons (r : Int) (i : Nat) (f : TFiber) (fs : List TFiber) : idxs r i (f :: fs) = if f.Risk = r then (i : Int) :: idxs r (i + 1) fs else idxs r (i + 1) fs := rfl
theorem idxs_len (r : Int) : ∀ (fs : List TFiber) (i : Nat), (idxs r i fs).length ≤ fs.length
  | [], i => by simp [idxs]
  | f :: fs, i => by
    have := idxs_len r fs (i + 1)
    rw [idxs_cons]; split <;> simp <;> omega
theorem idxs_mem (r : Int) : ∀ (fs : List TFiber) (i : Nat) (x : Int), x ∈ idxs r i fs ↔ ∃ j f, fs[j]? = some f ∧ f.Risk = r ∧ x = ((i + j : Nat) : Int)
  | [], i, x => by simp [idxs]
  | f :: fs, i, x => by
    have ih := idxs_mem r fs (i + 1) x
    have step : (∃ j g, (f :: fs)[j]? = some g ∧ g.Risk = r ∧ x = ((i + j : Nat) : Int)) ↔ (f.Risk = r ∧ x = (i : Int)) ∨ ∃ j g, fs[j]? = some g ∧ g.Risk = r ∧ x = ((i + 1 + j : Nat) : Int) := by
      constructor
      · rintro ⟨j, g, h1, h2, h3⟩
        cases j with
        | zero => simp at h1; subst h1; exact .inl ⟨h2, h3⟩
        | succ j => exact .inr ⟨j, g, by simpa using h1, h2, by rw [h3]; congr 1; omega⟩
      · rintro (⟨h1, h2⟩ | ⟨j, g, h1, h2, h3⟩)
        · exact ⟨0, f, rfl, h1, h2⟩
        · exact ⟨j + 1, g, by simpa using h1, h2, by rw [h3]; congr 1; omega⟩
    rw [step, ← ih]
    rw [idxs_cons]
    split
    · rename_i h; simp [h]
    · rename_i h; simp [h]
theorem idxs_fold (r : Int) : ∀ (fs : List TFiber) (i : Nat) (acc : List Int), walkL (fun i (f : TFiber) (a : List Int) => (.inl (if f.Risk = r then a ++ [(i : Int)] else a) : List Int ⊕ List Int)) (fun a => a) i fs acc = acc ++ idxs r i fs
  | [], i, acc => by simp [walkL, idxs]
  | f :: fs, i, acc => by
    simp only [walkL]
    rw [idxs_fold r fs (i + 1)]
    rw [idxs_cons]
    split <;> simp
def risks : List Int := [1, 2, 3, 4, 5, 6, 7, 8, 9]
def groupsP (n : TNetwork) : List (List Int) := ((risks.map fun r => idxs r 0 n.Fibers).filter fun l => decide (0 < l.length)) ++ (idxs 0 0 n.Fibers).map fun i => [i]
theorem groupsP_len (n : TNetwork) (h : n.Fibers.length ≤ 14) : (groupsP n).length ≤ 23 := by
  have := idxs_len 0 n.Fibers 0
  have h2 := List.length_filter_le (fun l : List Int => decide (0 < l.length)) (risks.map fun r => idxs r 0 n.Fibers)
  have h3 : (risks.map fun r => idxs r 0 n.Fibers).length = 9 := rfl
  unfold groupsP
  simp only [List.length_append, List.length_map]
  omega
theorem idx_loop {f : Int × List Int → Option ((Int × List Int) ⊕ List Int)} (fs : List TFiber) (r : Int) (hl : fs.length ≤ 1048576)
    (h1 : ∀ (i : Nat) x (a : List Int), fs[i]? = some x → a.length ≤ i → f ((i : Int), a) = some (.inl (((i + 1 : Nat) : Int), if x.Risk = r then a ++ [(i : Int)] else a)))
    (h2 : ∀ a, f ((fs.length : Int), a) = some (.inr a)) : iter f N0 (0, []) = some (idxs r 0 fs) := by
  have := iter_list (f := f) fs (fun i (a : List Int) => ((i : Int), a)) (fun i x a => .inl (if x.Risk = r then a ++ [(i : Int)] else a)) (fun a => a) (fun i a => a.length ≤ i) (fun i a x hx hI => by
    refine .inl ⟨_, rfl, ?_, h1 i x a hx hI⟩
    split <;> first | omega | (simp only [List.length_append, List.length_cons, List.length_nil]; omega)) (fun a _ => h2 a) [] (by simp) (by omega)
  rw [show iter f N0 (0, []) = _ from this, idxs_fold]; rfl
theorem app_loop {f : Int × List (List Int) → Option ((Int × List (List Int)) ⊕ List (List Int))} (fs : List TFiber) (G : List (List Int)) (hl : fs.length ≤ 1048576) (hG : G.length ≤ 100)
    (h1 : ∀ (i : Nat) x (a : List (List Int)), fs[i]? = some x → a.length ≤ 100 + i → f ((i : Int), a) = some (.inl (((i + 1 : Nat) : Int), if x.Risk = 0 then a ++ [[(i : Int)]] else a)))
    (h2 : ∀ a, f ((fs.length : Int), a) = some (.inr a)) : iter f N0 (0, G) = some (G ++ (idxs 0 0 fs).map fun i => [i]) := by
  have := iter_list (f := f) fs (fun i (a : List (List Int)) => ((i : Int), a)) (fun i x a => .inl (if x.Risk = 0 then a ++ [[(i : Int)]] else a)) (fun a => a) (fun i a => a.length ≤ 100 + i) (fun i a x hx hI => by
    refine .inl ⟨_, rfl, ?_, h1 i x a hx hI⟩
    split <;> first | omega | (simp only [List.length_append, List.length_cons, List.length_nil]; omega)) (fun a _ => h2 a) G (by omega) (by omega)
  rw [show iter f N0 (0, G) = _ from this]
  have gen : ∀ (fs : List TFiber) (i : Nat) (acc : List (List Int)), walkL (fun i (f : TFiber) (a : List (List Int)) => (.inl (if f.Risk = 0 then a ++ [[(i : Int)]] else a) : List (List Int) ⊕ List (List Int))) (fun a => a) i fs acc = acc ++ (idxs 0 i fs).map fun i => [i] := by
    intro fs
    induction fs with
    | nil => intro i acc; simp [walkL, idxs]
    | cons f fs ih =>
      intro i acc
      simp only [walkL]
      rw [ih (i + 1)]
      rw [idxs_cons]
      split <;> simp
  rw [gen]
theorem risk_loop {f : Int × List (List Int) → Option ((Int × List (List Int)) ⊕ List (List Int))} (fs : List TFiber)
    (h1 : ∀ (r : Int) (a : List (List Int)), 1 ≤ r → r ≤ 9 → a.length ≤ 10 → f (r, a) = some (.inl (r + 1, if 0 < (idxs r 0 fs).length then a ++ [idxs r 0 fs] else a)))
    (h2 : ∀ a, f (10, a) = some (.inr a)) : iter f N0 (1, []) = some ((risks.map fun r => idxs r 0 fs).filter fun l => decide (0 < l.length)) := by
  have := iter_list (f := f) risks (fun i (a : List (List Int)) => ((i : Int) + 1, a)) (fun i r a => .inl (if 0 < (idxs r 0 fs).length then a ++ [idxs r 0 fs] else a)) (fun a => a) (fun i a => a.length ≤ i) (fun i a r hr hI => by
    have hi : i < 9 := by have := (List.getElem?_eq_some_iff.1 hr).1; simpa [risks] using this
    have e : (i : Int) + 1 = r := by
      rcases i with _ | _ | _ | _ | _ | _ | _ | _ | _ | i <;> first | (simp [risks] at hr; omega) | omega
    refine .inl ⟨_, rfl, ?_, ?_⟩
    · split <;> first | omega | (simp only [List.length_append, List.length_cons, List.length_nil]; omega)
    · rw [e, h1 r a (by omega) (by omega) (by omega)]
      have : ((i + 1 : Nat) : Int) + 1 = r + 1 := by omega
      rw [this]) (fun a _ => by have := h2 a; simpa [risks] using this) [] (by simp) (by simp [risks])
  rw [show iter f N0 (1, []) = _ from this]
  have gen : ∀ (rs : List Int) (i : Nat) (acc : List (List Int)), walkL (fun (_ : Nat) (r : Int) (a : List (List Int)) => (.inl (if 0 < (idxs r 0 fs).length then a ++ [idxs r 0 fs] else a) : List (List Int) ⊕ List (List Int))) (fun a => a) i rs acc =
      acc ++ (rs.map fun r => idxs r 0 fs).filter fun l => decide (0 < l.length) := by
    intro rs
    induction rs with
    | nil => intro i acc; simp [walkL]
    | cons r rs ih =>
      intro i acc
      simp only [walkL]
      rw [ih (i + 1), List.map_cons, List.filter_cons]
      by_cases h : 0 < (idxs r 0 fs).length
      · simp [h]
      · simp [h]
  rw [gen]; rfl
theorem p_groups (n : TNetwork) (h : n.Fibers.length ≤ 14) : M_impl_groups n = some (groupsP n) := by
  unfold M_impl_groups
  rw [risk_loop (f := M_impl_groupsL1 n) n.Fibers (fun r a hr1 hr9 ha => by
    have e1 : decide (r ≤ 9) = true := by simp [hr9]
    simp only [M_impl_groupsL1, e1, cond_true]
    rw [idx_loop (f := M_impl_groupsL2 n (r, a)) n.Fibers r (by omega) (fun i x b hx hb => by
      have hlt := (List.getElem?_eq_some_iff.1 hx).1
      have e1 : decide ((i : Int) < n.Fibers.length) = true := by simp [hlt]
      simp only [M_impl_groupsL2, e1, cond_true, geti_nat, hx, Option.bind_some, bnd]
      rw [grd_t (by omega), w64_eq (by omega) (by omega)]
      by_cases e : x.Risk = r
      · simp [e]
      · simp [e, cond_ite]) (fun a => by simp [M_impl_groupsL2])]
    simp only [Option.bind_some, bnd]
    rw [grd_t (by omega), w64_eq (by omega) (by omega)]
    by_cases e : 0 < (idxs r 0 n.Fibers).length
    · have e' : decide ((0 : Int) < ((idxs r 0 n.Fibers).length : Int)) = true := by simpa using e
      simp only [e', cond_true, if_pos e, Option.bind_some]
    · have e' : decide ((0 : Int) < ((idxs r 0 n.Fibers).length : Int)) = false := by simpa using e
      simp only [e', cond_false, if_neg e]) (fun a => by simp [M_impl_groupsL1])]
  simp only [Option.bind_some]
  have hl := List.length_filter_le (fun l : List Int => decide (0 < l.length)) (risks.map fun r => idxs r 0 n.Fibers)
  have hl9 : (risks.map fun r => idxs r 0 n.Fibers).length = 9 := rfl
  rw [app_loop (f := M_impl_groupsL3 n) n.Fibers _ (by omega) (by omega) (fun i x a hx ha => by
    have hlt := (List.getElem?_eq_some_iff.1 hx).1
    have e1 : decide ((i : Int) < n.Fibers.length) = true := by simp [hlt]
    simp only [M_impl_groupsL3, e1, cond_true, geti_nat, hx, Option.bind_some, bnd]
    rw [grd_t (by omega), w64_eq (by omega) (by omega)]
    by_cases e : x.Risk = 0
    · simp [e]
    · simp [e, cond_ite]) (fun a => by simp [M_impl_groupsL3])]
  rfl
theorem p_l2Group (n : TNetwork) (h : n.Fibers.length ≤ 14) (i : Nat) (f : TFiber) (hf : n.Fibers[i]? = some f) (hr : f.Risk ≠ 0) : M_spec_l2Group n (i : Int) = some (idxs f.Risk 0 n.Fibers) := by
  unfold M_spec_l2Group
  have e : (f.Risk == 0) = false := by simpa using hr
  simp only [geti_nat, hf, Option.bind_some, e, cond_false]
  rw [idx_loop (f := M_spec_l2GroupL1 n (i : Int)) n.Fibers f.Risk (by omega) (fun j x b hx hb => by
    have hlt := (List.getElem?_eq_some_iff.1 hx).1
    have e1 : decide ((j : Int) < n.Fibers.length) = true := by simp [hlt]
    simp only [M_spec_l2GroupL1, e1, cond_true, geti_nat, hx, hf, Option.bind_some, bnd]
    rw [grd_t (by omega), w64_eq (by omega) (by omega)]
    by_cases e : x.Risk = f.Risk
    · simp [e]
    · simp [e, cond_ite]) (fun a => by simp [M_spec_l2GroupL1])]
  rfl
theorem idxs_pos {r : Int} {fs : List TFiber} : 0 < (idxs r 0 fs).length ↔ ∃ (j : Nat) (f : TFiber), fs[j]? = some f ∧ f.Risk = r := by
  constructor
  · intro h
    obtain ⟨x, hx⟩ := List.exists_mem_of_length_pos h
    obtain ⟨j, f, h1, h2, _⟩ := (idxs_mem r fs 0 x).1 hx
    exact ⟨j, f, h1, h2⟩
  · rintro ⟨j, f, h1, h2⟩
    exact List.length_pos_of_mem ((idxs_mem r fs 0 _).2 ⟨j, f, h1, h2, rfl⟩)
theorem p_l2Groups (n : TNetwork) (h : n.Fibers.length ≤ 14) : M_spec_l2Groups n = some (groupsP n) := by
  unfold M_spec_l2Groups
  rw [risk_loop (f := M_spec_l2GroupsL1 n) n.Fibers (fun r a hr1 hr9 ha => by
    have e1 : decide (r ≤ 9) = true := by simp [hr9]
    simp only [M_spec_l2GroupsL1, e1, cond_true]
    have key : iter (M_spec_l2GroupsL2 n (r, a)) N0 0 = some (if 0 < (idxs r 0 n.Fibers).length then a ++ [idxs r 0 n.Fibers] else a) := by
      rw [iter_anyI (f := M_spec_l2GroupsL2 n (r, a)) n.Fibers (fun _ f => decide (f.Risk = r)) (a ++ [idxs r 0 n.Fibers]) a (fun i x hx _ => by
        have hlt := (List.getElem?_eq_some_iff.1 hx).1
        have e1 : decide ((i : Int) < n.Fibers.length) = true := by simp [hlt]
        simp only [M_spec_l2GroupsL2, e1, cond_true, geti_nat, hx, Option.bind_some, bnd]
        by_cases e : x.Risk = r
        · have e0 : x.Risk ≠ 0 := by omega
          have e2 : (x.Risk == r) = true := by simp [e]
          rw [p_l2Group n h i x hx e0]
          simp only [e2, cond_true, Option.bind_some]
          rw [grd_t (by omega)]
          simp [e]
        · have e2 : (x.Risk == r) = false := by simp [e]
          simp only [e2, cond_false]
          rw [w64_eq (by omega) (by omega)]
          simp [e]) (by simp [M_spec_l2GroupsL2]) (by omega)]
      by_cases hp : 0 < (idxs r 0 n.Fibers).length
      · rw [if_pos hp]
        obtain ⟨j, f, h1, h2⟩ := idxs_pos.1 hp
        have : anyI (fun _ (f : TFiber) => decide (f.Risk = r)) n.Fibers = true := anyI_iff.2 ⟨j, f, h1, by simp [h2]⟩
        rw [this]; rfl
      · rw [if_neg hp]
        have : anyI (fun _ (f : TFiber) => decide (f.Risk = r)) n.Fibers = false := anyI_false.2 fun i x hx => by
          simp only [decide_eq_false_iff_not]
          intro e; exact hp (idxs_pos.2 ⟨i, x, hx, e⟩)
        rw [this]; rfl
    rw [key]
    simp only [Option.bind_some]
    rw [w64_eq (by omega) (by omega)]) (fun a => by simp [M_spec_l2GroupsL1])]
  simp only [Option.bind_some]
  have hl := List.length_filter_le (fun l : List Int => decide (0 < l.length)) (risks.map fun r => idxs r 0 n.Fibers)
  have hl9 : (risks.map fun r => idxs r 0 n.Fibers).length = 9 := rfl
  rw [app_loop (f := M_spec_l2GroupsL3 n) n.Fibers _ (by omega) (by omega) (fun i x a hx ha => by
    have hlt := (List.getElem?_eq_some_iff.1 hx).1
    have e1 : decide ((i : Int) < n.Fibers.length) = true := by simp [hlt]
    simp only [M_spec_l2GroupsL3, e1, cond_true, geti_nat, hx, Option.bind_some, bnd]
    rw [grd_t (by omega), w64_eq (by omega) (by omega)]
    by_cases e : x.Risk = 0
    · simp [e]
    · simp [e, cond_ite]) (fun a => by simp [M_spec_l2GroupsL3])]
  rfl
end Vs

namespace Vs
open Go
theorem p_ContainsFunc_i (xs : List Int) (f : Int → Option Bool) (p : Int → Bool) (hf : ∀ x, f x = some (p x)) (hl : xs.length ≤ 1048576) : M_slices_ContainsFunc_Lint_int xs f = some (xs.any p) := by
  unfold M_slices_ContainsFunc_Lint_int M_slices_IndexFunc_Lint_int
  rw [iter_findI (f := M_slices_IndexFunc_Lint_intL1 xs f) xs (fun _ x => p x) (fun i _ => (i : Int)) () (fun i x hx _ => by
    have hlt := (List.getElem?_eq_some_iff.1 hx).1
    have h1 : decide ((i : Int) < xs.length) = true := by simp [hlt]
    simp only [M_slices_IndexFunc_Lint_intL1, h1, cond_true, geti_nat, hx, hf, Option.bind_some]
    rw [w64_eq (by omega) (by omega)]
    rcases bt (p x) with e | e <;> simp only [e] <;> rfl) (by simp [M_slices_IndexFunc_Lint_intL1]) (by omega)]
  rw [← anyI_any]
  cases e : findI (fun _ x => p x) xs with
  | none =>
    have := findI_none.1 e
    have h : anyI (fun _ x => p x) xs = false := anyI_false.2 this
    rw [h]; rfl
  | some q =>
    obtain ⟨i, x⟩ := q
    obtain ⟨h1, h2, _⟩ := findI_some.1 e
    have h : anyI (fun _ x => p x) xs = true := anyI_iff.2 ⟨i, x, h1, h2⟩
    rw [h]; simp
def outOk (n : TNetwork) (o : TOutage) : Bool := netOk n && wi o.Unit 2 20 && decide (o.Down.length = (groupsP n).length) && !o.Down.any fun d => !wi d 0 o.Unit
theorem beq_len {α β : Type} (a : List α) (b : List β) : ((a.length : Int) == (b.length : Int)) = decide (a.length = b.length) := by
  rw [Bool.eq_iff_iff]; simp; omega
theorem p_impl_Outage (n : TNetwork) (o : TOutage) (hz : z_Network n ≤ 1048576) (ho : o.Down.length ≤ 1048576) : M_impl_IsValidOutage n o = some (outOk n o) := by
  unfold M_impl_IsValidOutage outOk
  simp only [p_IsValidNetwork n hz, Option.bind_some, p_within]
  rcases bt (netOk n) with hn | hn
  · have hb := netOk_b hn
    simp only [hn, cond_true, p_groups n hb.2.2, Option.bind_some, beq_len, p_ContainsFunc_i o.Down (fun x0 => M_impl_IsValidOutage_c1 x0 o) (fun d => !wi d 0 o.Unit) (fun d => by unfold M_impl_IsValidOutage_c1; simp only [p_within, Option.bind_some]) ho]
    cases wi o.Unit 2 20 <;> cases decide (o.Down.length = (groupsP n).length) <;> simp
  · simp [hn]
theorem p_spec_Outage (n : TNetwork) (o : TOutage) (hz : z_Network n ≤ 1048576) (ho : o.Down.length ≤ 1048576) : M_spec_l16Good n o = some (outOk n o) := by
  unfold M_spec_l16Good outOk
  simp only [p_l2Good n hz, Option.bind_some, p_l1In]
  rcases bt (netOk n) with hn | hn
  · have hb := netOk_b hn
    simp only [hn, Bool.not_true, cond_false, p_l2Groups n hb.2.2, Option.bind_some, Bool.true_and]
    have e : ((o.Down.length : Int) != ((groupsP n).length : Int)) = !decide (o.Down.length = (groupsP n).length) := by rw [bne, beq_len]
    rw [e, iter_anyI (f := M_spec_l16GoodL1 o) o.Down (fun _ d => !wi d 0 o.Unit) (.inr false) (.inl ()) (fun i x hx _ => by
      have hlt := (List.getElem?_eq_some_iff.1 hx).1
      have h1 : decide ((i : Int) < o.Down.length) = true := by simp [hlt]
      simp only [M_spec_l16GoodL1, h1, cond_true, geti_nat, hx, p_l1In, Option.bind_some]
      rw [w64_eq (by omega) (by omega)]
      rcases bt (wi x 0 o.Unit) with e | e <;> simp only [e] <;> rfl) (by simp [M_spec_l16GoodL1]) (by omega), anyI_any]
    cases wi o.Unit 2 20 <;> cases decide (o.Down.length = (groupsP n).length) <;> cases (o.Down.any fun d => !wi d 0 o.Unit) <;> rfl
  · simp [hn]
end Vs

namespace Vs
open Go
def bitG (_ : Nat) (x : Int) (m : Int) : Int := bits .or .i64 m (IntKind.wrap .i64 (1 * 2 ^ (min (Int.toNat x) (IntKind.bits .i64))))
def maskP (l : List Int) : Int := foldI bitG 0 l 0
theorem p_l6Mask (l : List Int) (h0 : ∀ x ∈ l, 0 ≤ x ∧ x < 1048576) (hl : l.length ≤ 1048576) : M_spec_l6Mask l = some (maskP l) := by
  unfold M_spec_l6Mask
  have : iter (M_spec_l6MaskL1 l) N0 (0, 0) = some (maskP l) := by
    refine iter_foldI (f := M_spec_l6MaskL1 l) l (fun i (a : Int) => (a, (i : Int))) bitG id (fun _ _ => True) (fun i a x hx _ => ?_) (fun a _ => by simp [M_spec_l6MaskL1]) 0 trivial (by omega)
    have hlt := (List.getElem?_eq_some_iff.1 hx).1
    have h1 : decide ((i : Int) < l.length) = true := by simp [hlt]
    have h2 := h0 x (List.mem_of_getElem? hx)
    have h3 : IntKind.wrap .u64 x = x := w64u_eq h2.1 (by omega)
    simp only [M_spec_l6MaskL1, h1, cond_true, geti_nat, hx, Option.bind_some, h3, grd_t h2.1]
    rw [w64_eq (n := (i : Int) + 1) (by omega) (by omega)]
    exact ⟨trivial, rfl⟩
  rw [this]; rfl
def wtG (u s : Int) (i : Nat) (d a : Int) : Int := if bits .and .i64 (Int.fdiv s (2 ^ (min i (IntKind.bits .i64)))) 1 == 1 then IntKind.wrap .i64 (a * d) else IntKind.wrap .i64 (a * IntKind.wrap .i64 (u - d))
def weightP (o : TOutage) (s : Int) : Int := foldI (wtG o.Unit s) 0 o.Down 1
theorem p_impl_weight (o : TOutage) (s : Int) (hl : o.Down.length ≤ 1048576) : M_impl_Outage_weight o s = some (weightP o s) := by
  unfold M_impl_Outage_weight
  have : iter (M_impl_Outage_weightL1 o s) N0 (1, 0) = some (weightP o s) := by
    refine iter_foldI (f := M_impl_Outage_weightL1 o s) o.Down (fun i (a : Int) => (a, (i : Int))) (wtG o.Unit s) id (fun _ _ => True) (fun i a x hx _ => ?_) (fun a _ => by simp [M_impl_Outage_weightL1]) 1 trivial (by omega)
    have hlt := (List.getElem?_eq_some_iff.1 hx).1
    have h1 : decide ((i : Int) < o.Down.length) = true := by simp [hlt]
    have h2 : (0 : Int) ≤ (i : Int) := by omega
    simp only [M_impl_Outage_weightL1, h1, cond_true, geti_nat, hx, Option.bind_some, grd_t h2, Int.toNat_natCast]
    rw [w64_eq (n := (i : Int) + 1) (by omega) (by omega)]
    refine ⟨trivial, ?_⟩
    unfold wtG
    rcases bt (bits .and .i64 (Int.fdiv s (2 ^ (min i (IntKind.bits .i64)))) 1 == 1) with e | e <;> simp only [e] <;> rfl
  rw [this]; rfl
theorem p_spec_weight (o : TOutage) (s : Int) (hl : o.Down.length ≤ 1048576) : M_spec_l16Weight o s = some (weightP o s) := by
  unfold M_spec_l16Weight
  have : iter (M_spec_l16WeightL1 o s) N0 (1, 0) = some (weightP o s) := by
    refine iter_foldI (f := M_spec_l16WeightL1 o s) o.Down (fun i (a : Int) => (a, (i : Int))) (wtG o.Unit s) id (fun _ _ => True) (fun i a x hx _ => ?_) (fun a _ => by simp [M_spec_l16WeightL1]) 1 trivial (by omega)
    have hlt := (List.getElem?_eq_some_iff.1 hx).1
    have h1 : decide ((i : Int) < o.Down.length) = true := by simp [hlt]
    have h2 : (0 : Int) ≤ (i : Int) := by omega
    have h3 : IntKind.wrap .u64 (i : Int) = (i : Int) := w64u_eq h2 (by omega)
    simp only [M_spec_l16WeightL1, h1, cond_true, geti_nat, hx, Option.bind_some, h3, grd_t h2, Int.toNat_natCast]
    rw [w64_eq (n := (i : Int) + 1) (by omega) (by omega)]
    refine ⟨trivial, ?_⟩
    unfold wtG
    rcases bt (bits .and .i64 (Int.fdiv s (2 ^ (min i (IntKind.bits .i64)))) 1 == 1) with e | e <;> simp only [e] <;> rfl
  rw [this]; rfl
end Vs

namespace Vs
open Go
def gt (o : List Int) (v : Nat) : Int := o.getD v 0
def mn (a b : Int) : Int := if b < a then b else a
theorem mn_le (a b : Int) : mn a b ≤ a ∧ mn a b ≤ b ∧ (mn a b = a ∨ mn a b = b) := by unfold mn; split <;> omega
theorem gt_set (o : List Int) (a v : Nat) (x : Int) (ha : a < o.length) : gt (o.set a x) v = if v = a then x else gt o v := by
  unfold gt
  rw [List.getD_eq_getElem?_getD, List.getD_eq_getElem?_getD, List.getElem?_set]
  by_cases h : a = v
  · subst h; simp [ha]
  · rw [if_neg h, if_neg (Ne.symm h)]
def relax (o : List Int) (a b : Nat) : List Int := (o.set a (mn (gt o a) (gt o b))).set b (mn (gt o a) (gt o b))
theorem relax_len (o : List Int) (a b : Nat) : (relax o a b).length = o.length := by simp [relax]
theorem gt_relax (o : List Int) (a b v : Nat) (ha : a < o.length) (hb : b < o.length) : gt (relax o a b) v = if v = a ∨ v = b then mn (gt o a) (gt o b) else gt o v := by
  unfold relax
  rw [gt_set _ _ _ _ (by simpa using hb), gt_set _ _ _ _ ha]
  by_cases h : v = b <;> by_cases h2 : v = a <;> simp [h, h2]
def passP (al : Nat → Bool) : Nat → List TFiber → List Int → List Int
  | _, [], o => o
  | i, f :: fs, o => passP al (i + 1) fs (if al i then relax o f.A.toNat f.B.toNat else o)
def Ed (fs : List TFiber) (N : Nat) : Prop := ∀ f ∈ fs, f.A.toNat < N ∧ f.B.toNat < N
theorem Ed.tl {f : TFiber} {fs : List TFiber} {N : Nat} (h : Ed (f :: fs) N) : Ed fs N := fun g hg => h g (List.mem_cons_of_mem _ hg)
theorem Ed.hd {f : TFiber} {fs : List TFiber} {N : Nat} (h : Ed (f :: fs) N) : f.A.toNat < N ∧ f.B.toNat < N := h f List.mem_cons_self
def one (al : Nat → Bool) (i : Nat) (f : TFiber) (o : List Int) : List Int := if al i then relax o f.A.toNat f.B.toNat else o
theorem one_len (al : Nat → Bool) (i : Nat) (f : TFiber) (o : List Int) : (one al i f o).length = o.length := by unfold one; split <;> simp [relax_len]
theorem pass_cons (al : Nat → Bool) (i : Nat) (f : TFiber) (fs : List TFiber) (o : List Int) : passP al i (f :: fs) o = passP al (i + 1) fs (one al i f o) := rfl
theorem pass_len (al : Nat → Bool) : ∀ (fs : List TFiber) (i : Nat) (o : List Int), (passP al i fs o).length = o.length
  | [], _, _ => rfl
  | f :: fs, i, o => by rw [pass_cons, pass_len al fs, one_len]
theorem one_le (al : Nat → Bool) (i : Nat) (f : TFiber) (o : List Int) (h : f.A.toNat < o.length ∧ f.B.toNat < o.length) (v : Nat) : gt (one al i f o) v ≤ gt o v := by
  unfold one
  split
  · rw [gt_relax _ _ _ _ h.1 h.2]
    have := mn_le (gt o f.A.toNat) (gt o f.B.toNat)
    split
    · rename_i e; rcases e with e | e <;> subst e <;> omega
    · omega
  · omega
theorem pass_le (al : Nat → Bool) : ∀ (fs : List TFiber) (i : Nat) (o : List Int), Ed fs o.length → ∀ v, gt (passP al i fs o) v ≤ gt o v
  | [], _, _, _, v => Int.le_refl _
  | f :: fs, i, o, h, v => by
    rw [pass_cons]
    have h1 := pass_le al fs (i + 1) (one al i f o) (by rw [one_len]; exact h.tl) v
    have h2 := one_le al i f o h.hd v
    omega
def Flat (al : Nat → Bool) (i : Nat) (fs : List TFiber) (F : Nat → Int) : Prop := ∀ j f, fs[j]? = some f → al (i + j) = true → F f.A.toNat = F f.B.toNat
theorem Flat.tl {al : Nat → Bool} {i : Nat} {f : TFiber} {fs : List TFiber} {F : Nat → Int} (h : Flat al i (f :: fs) F) : Flat al (i + 1) fs F := fun j g hg ha => h (j + 1) g (by simpa using hg) (by rw [show i + (j + 1) = i + 1 + j by omega]; exact ha)
theorem Flat.hd {al : Nat → Bool} {i : Nat} {f : TFiber} {fs : List TFiber} {F : Nat → Int} (h : Flat al i (f :: fs) F) (ha : al i = true) : F f.A.toNat = F f.B.toNat := h 0 f rfl ha
theorem one_ge {al : Nat → Bool} {i : Nat} {f : TFiber} {o : List Int} {F : Nat → Int} (h : f.A.toNat < o.length ∧ f.B.toNat < o.length) (hF : al i = true → F f.A.toNat = F f.B.toNat) (ho : ∀ v, F v ≤ gt o v) (v : Nat) : F v ≤ gt (one al i f o) v := by
  unfold one
  split
  · rename_i ha
    rw [gt_relax _ _ _ _ h.1 h.2]
    have := mn_le (gt o f.A.toNat) (gt o f.B.toNat)
    have e := hF ha
    have h1 := ho f.A.toNat
    have h2 := ho f.B.toNat
    split
    · rename_i e'; rcases e' with e' | e' <;> subst e' <;> omega
    · exact ho v
  · exact ho v
theorem pass_ge {al : Nat → Bool} {F : Nat → Int} : ∀ (fs : List TFiber) (i : Nat) (o : List Int), Ed fs o.length → Flat al i fs F → (∀ v, F v ≤ gt o v) → ∀ v, F v ≤ gt (passP al i fs o) v
  | [], _, _, _, _, ho, v => ho v
  | f :: fs, i, o, h, hF, ho, v => by
    rw [pass_cons]
    exact pass_ge fs (i + 1) _ (by rw [one_len]; exact h.tl) hF.tl (fun v => one_ge h.hd hF.hd ho v) v
theorem pass_hit {al : Nat → Bool} {F : Nat → Int} : ∀ (fs : List TFiber) (i : Nat) (o : List Int), Ed fs o.length → Flat al i fs F → (∀ v, F v ≤ gt o v) →
    ∀ j f, fs[j]? = some f → al (i + j) = true → (gt o f.A.toNat = F f.A.toNat ∨ gt o f.B.toNat = F f.B.toNat) → gt (passP al i fs o) f.A.toNat = F f.A.toNat ∧ gt (passP al i fs o) f.B.toNat = F f.B.toNat
  | [], _, _, _, _, _, j, f, hf, _, _ => by simp at hf
  | g :: fs, i, o, h, hF, ho, j, f, hf, ha, hx => by
    have ho' := fun v => one_ge (al := al) (i := i) h.hd hF.hd ho v
    have hl := one_le al i g o h.hd
    have hEd : Ed fs (one al i g o).length := by rw [one_len]; exact h.tl
    rw [pass_cons]
    cases j with
    | zero =>
      simp at hf; subst hf
      have e := hF.hd ha
      have hm := mn_le (gt o g.A.toNat) (gt o g.B.toNat)
      have h1 := ho g.A.toNat
      have h2 := ho g.B.toNat
      have ga : gt (one al i g o) g.A.toNat = mn (gt o g.A.toNat) (gt o g.B.toNat) := by
        have ha0 : al i = true := ha; unfold one; rw [if_pos ha0, gt_relax _ _ _ _ h.hd.1 h.hd.2, if_pos (.inl rfl)]
      have gb : gt (one al i g o) g.B.toNat = mn (gt o g.A.toNat) (gt o g.B.toNat) := by
        have ha0 : al i = true := ha; unfold one; rw [if_pos ha0, gt_relax _ _ _ _ h.hd.1 h.hd.2, if_pos (.inr rfl)]
      have p1 := pass_ge fs (i + 1) _ hEd hF.tl ho' g.A.toNat
      have p2 := pass_ge fs (i + 1) _ hEd hF.tl ho' g.B.toNat
      have q1 := pass_le al fs (i + 1) _ hEd g.A.toNat
      have q2 := pass_le al fs (i + 1) _ hEd g.B.toNat
      rcases hx with hx | hx <;> omega
    | succ j =>
      refine pass_hit fs (i + 1) _ hEd hF.tl ho' j f (by simpa using hf) (by rw [show i + 1 + j = i + (j + 1) by omega]; exact ha) ?_
      have l1 := hl f.A.toNat
      have l2 := hl f.B.toNat
      have g1 := ho' f.A.toNat
      have g2 := ho' f.B.toNat
      rcases hx with hx | hx
      · left; omega
      · right; omega
def Clo (al : Nat → Bool) (i : Nat) (fs : List TFiber) (X : Nat → Prop) : Prop := ∀ j f, fs[j]? = some f → al (i + j) = true → (X f.A.toNat ↔ X f.B.toNat)
theorem pass_clo {al : Nat → Bool} {X : Nat → Prop} : ∀ (fs : List TFiber) (i : Nat) (o : List Int), Ed fs o.length → Clo al i fs X → (∀ v, v < o.length → (X v ↔ X (gt o v).toNat)) → ∀ v, v < o.length → (X v ↔ X (gt (passP al i fs o) v).toNat)
  | [], _, _, _, _, ho, v, hv => ho v hv
  | f :: fs, i, o, h, hX, ho, v, hv => by
    rw [pass_cons]
    refine pass_clo fs (i + 1) _ (by rw [one_len]; exact h.tl) (fun j g hg ha => hX (j + 1) g (by simpa using hg) (by rw [show i + (j + 1) = i + 1 + j by omega]; exact ha)) (fun v hv => ?_) v (by rw [one_len]; exact hv)
    rw [one_len] at hv
    unfold one
    split
    · rename_i ha
      rw [gt_relax _ _ _ _ h.hd.1 h.hd.2]
      have e := hX 0 f rfl ha
      have e1 := ho f.A.toNat h.hd.1
      have e2 := ho f.B.toNat h.hd.2
      split
      · rename_i e'
        rcases (mn_le (gt o f.A.toNat) (gt o f.B.toNat)).2.2 with m | m <;> rw [m] <;> rcases e' with e' | e' <;> subst e'
        · exact e1
        · rw [← e]; exact e1
        · rw [e]; exact e2
        · exact e2
      · exact ho v hv
    · exact ho v hv
theorem pass_rng {al : Nat → Bool} {N : Int} : ∀ (fs : List TFiber) (i : Nat) (o : List Int), Ed fs o.length → (∀ v, v < o.length → 0 ≤ gt o v ∧ gt o v < N) → ∀ v, v < o.length → 0 ≤ gt (passP al i fs o) v ∧ gt (passP al i fs o) v < N
  | [], _, _, _, ho, v, hv => ho v hv
  | f :: fs, i, o, h, ho, v, hv => by
    rw [pass_cons]
    refine pass_rng fs (i + 1) _ (by rw [one_len]; exact h.tl) (fun v hv => ?_) v (by rw [one_len]; exact hv)
    rw [one_len] at hv
    unfold one
    split
    · rw [gt_relax _ _ _ _ h.hd.1 h.hd.2]
      have e1 := ho f.A.toNat h.hd.1
      have e2 := ho f.B.toNat h.hd.2
      split
      · rcases (mn_le (gt o f.A.toNat) (gt o f.B.toNat)).2.2 with m | m <;> rw [m] <;> assumption
      · exact ho v hv
    · exact ho v hv
theorem gt_ext {o o' : List Int} (hl : o.length = o'.length) (h : ∀ v, gt o v = gt o' v) : o = o' := by
  apply List.ext_getElem hl
  intro i h1 h2
  have := h i
  unfold gt at this
  rw [List.getD_eq_getElem?_getD, List.getD_eq_getElem?_getD, List.getElem?_eq_getElem h1, List.getElem?_eq_getElem h2] at this
  exact this
theorem pass_fix {al : Nat → Bool} : ∀ (fs : List TFiber) (i : Nat) (o : List Int), Ed fs o.length → (∀ v, gt (passP al i fs o) v = gt o v) → Flat al i fs (gt o)
  | [], _, _, _, _, j, f, hf, _ => by simp at hf
  | g :: fs, i, o, h, hfix, j, f, hf, ha => by
    rw [pass_cons] at hfix
    have hl := one_le al i g o h.hd
    have hEd : Ed fs (one al i g o).length := by rw [one_len]; exact h.tl
    have hp := pass_le al fs (i + 1) (one al i g o) hEd
    have e : one al i g o = o := gt_ext (one_len ..) fun v => by have := hl v; have := hp v; have := hfix v; omega
    cases j with
    | zero =>
      simp at hf; subst hf
      have ga : gt (one al i g o) g.A.toNat = mn (gt o g.A.toNat) (gt o g.B.toNat) := by
        have ha0 : al i = true := ha; unfold one; rw [if_pos ha0, gt_relax _ _ _ _ h.hd.1 h.hd.2, if_pos (.inl rfl)]
      have gb : gt (one al i g o) g.B.toNat = mn (gt o g.A.toNat) (gt o g.B.toNat) := by
        have ha0 : al i = true := ha; unfold one; rw [if_pos ha0, gt_relax _ _ _ _ h.hd.1 h.hd.2, if_pos (.inr rfl)]
      rw [e] at ga gb
      omega
    | succ j =>
      rw [e] at hfix
      exact pass_fix fs (i + 1) o h.tl hfix j f (by simpa using hf) (by rw [show i + 1 + j = i + (j + 1) by omega]; exact ha)
def rep (P : List Int → List Int) : Nat → List Int → List Int
  | 0, o => o
  | n + 1, o => P (rep P n o)
def initP (N : Nat) : List Int := (List.range N).map fun i : Nat => (i : Int)
theorem gt_init (N v : Nat) (h : v < N) : gt (initP N) v = v := by unfold gt initP; simp [h]
def labels (al : Nat → Bool) (fs : List TFiber) (N : Nat) : List Int := rep (passP al 0 fs) N (initP N)
theorem rep_len (al : Nat → Bool) (fs : List TFiber) (o : List Int) : ∀ n, (rep (passP al 0 fs) n o).length = o.length
  | 0 => rfl
  | n + 1 => by rw [rep, pass_len, rep_len al fs o n]
theorem conv {al : Nat → Bool} {fs : List TFiber} {N : Nat} (hE : Ed fs N) (hN : 0 < N) {k : Nat} {F : List Int} (hF : F = rep (passP al 0 fs) k (initP N)) (hfix : passP al 0 fs F = F) : labels al fs N = F := by
  have hlen : (initP N).length = N := by simp [initP]
  have hrl : ∀ t, (rep (passP al 0 fs) t (initP N)).length = N := fun t => by rw [rep_len, hlen]
  have hFl : F.length = N := by rw [hF]; exact hrl k
  have hflat : Flat al 0 fs (gt F) := pass_fix fs 0 F (by rw [hFl]; exact hE) fun v => by rw [hfix]
  -- going down
  have hdec : ∀ t v, gt (rep (passP al 0 fs) (t + 1) (initP N)) v ≤ gt (rep (passP al 0 fs) t (initP N)) v := fun t v => pass_le al fs 0 _ (by rw [hrl]; exact hE) v
  have hle0 : ∀ t v, gt (rep (passP al 0 fs) t (initP N)) v ≤ gt (initP N) v := by
    intro t
    induction t with
    | zero => intro v; exact Int.le_refl _
    | succ t ih => intro v; have := hdec t v; have := ih v; omega
  have hinvF : ∀ X : Nat → Prop, Clo al 0 fs X → ∀ t v, v < N → (X v ↔ X (gt (rep (passP al 0 fs) t (initP N)) v).toNat) := by
    intro X hX t
    induction t with
    | zero => intro v hv; rw [rep, gt_init N v hv]; simp
    | succ t ih =>
      intro v hv
      exact pass_clo fs 0 _ (by rw [hrl]; exact hE) hX (fun v hv => ih v (by rw [hrl] at hv; exact hv)) v (by rw [hrl]; exact hv)
  have hrng : ∀ t v, v < N → 0 ≤ gt (rep (passP al 0 fs) t (initP N)) v ∧ gt (rep (passP al 0 fs) t (initP N)) v < N := by
    intro t
    induction t with
    | zero => intro v hv; rw [rep, gt_init N v hv]; omega
    | succ t ih =>
      intro v hv
      exact pass_rng fs 0 _ (by rw [hrl]; exact hE) (fun v hv => ih v (by rw [hrl] at hv; exact hv)) v (by rw [hrl]; exact hv)
  -- F is below all
  have hge : ∀ t v, gt F v ≤ gt (rep (passP al 0 fs) t (initP N)) v := by
    have base : ∀ v, gt F v ≤ gt (initP N) v := fun v => by rw [hF]; exact hle0 k v
    intro t
    induction t with
    | zero => exact base
    | succ t ih => intro v; exact pass_ge fs 0 _ (by rw [hrl]; exact hE) hflat ih v
  have hFF : ∀ v, v < N → gt F (gt F v).toNat = gt F v := by
    intro v hv
    have h1 := hinvF (fun w => gt F w = gt F v) (fun j f hf ha => by show gt F f.A.toNat = gt F v ↔ gt F f.B.toNat = gt F v; rw [hflat j f hf ha]) k v hv
    rw [← hF] at h1
    exact h1.1 rfl
  have hfin : ∀ t, (∀ v, v < N → gt (rep (passP al 0 fs) t (initP N)) v = gt F v) → rep (passP al 0 fs) t (initP N) = F := by
    intro t h
    refine gt_ext (by rw [hrl, hFl]) fun v => ?_
    by_cases hv : v < N
    · exact h v hv
    · unfold gt
      rw [List.getD_eq_getElem?_getD, List.getD_eq_getElem?_getD, List.getElem?_eq_none (by rw [hrl]; omega), List.getElem?_eq_none (by rw [hFl]; omega)]
  -- counting
  let S : Nat → Nat → Bool := fun t v => decide (gt (rep (passP al 0 fs) t (initP N)) v = gt F v)
  have hmono : ∀ t v, v < N → S t v = true → S (t + 1) v = true := by
    intro t v hv h
    simp only [S, decide_eq_true_eq] at h ⊢
    have := hdec t v
    have := hge (t + 1) v
    omega
  have hcount : ∀ t, t + 1 ≤ (List.range N).countP (S t) ∨ (List.range N).countP (S t) = N := by
    intro t
    induction t with
    | zero =>
      left
      refine List.countP_pos_iff.2 ⟨0, List.mem_range.2 hN, ?_⟩
      refine decide_eq_true (?_ : gt (initP N) 0 = gt F 0)
      have h1 := hge 0 0
      have h2 := hrng k 0 hN
      rw [← hF] at h2
      rw [rep, gt_init N 0 hN] at h1
      have e0 := gt_init N 0 hN
      have : ((0 : Nat) : Int) = 0 := rfl
      omega
    | succ t ih =>
      have hle : (List.range N).countP (S t) ≤ (List.range N).countP (S (t + 1)) := List.countP_mono_left fun v hv h => hmono t v (List.mem_range.1 hv) h
      have hmax : (List.range N).countP (S (t + 1)) ≤ N := by have := List.countP_le_length (p := S (t + 1)) (l := List.range N); simpa using this
      rcases ih with ih | ih
      · by_cases hall : ∀ v, v < N → S t v = true
        · right
          have : (List.range N).countP (S (t + 1)) = (List.range N).length := List.countP_eq_length.2 fun v hv => hmono t v (List.mem_range.1 hv) (hall v (List.mem_range.1 hv))
          simpa using this
        · left
          obtain ⟨v, hv⟩ := Classical.not_forall.1 hall
          obtain ⟨hv1, hv2⟩ := Classical.not_imp.1 hv
          -- a fiber between the settled and the others
          have hcr : ¬ Clo al 0 fs (fun w => S t w = true) := by
            intro hclo
            have h1 := hinvF _ hclo k v hv1
            rw [← hF] at h1
            apply hv2
            rw [h1]
            have hr := hrng k v hv1
            rw [← hF] at hr
            have hm : (gt F v).toNat < N := by omega
            have h2 := hge t (gt F v).toNat
            have h3 := hle0 t (gt F v).toNat
            rw [gt_init N _ hm] at h3
            have h4 := hFF v hv1
            simp only [S, decide_eq_true_eq]
            omega
          have : ∃ j f, fs[j]? = some f ∧ al (0 + j) = true ∧ ¬ (S t f.A.toNat = true ↔ S t f.B.toNat = true) := by
            apply Classical.byContradiction
            intro hno
            apply hcr
            intro j f hf ha
            apply Classical.byContradiction
            intro hne
            exact hno ⟨j, f, hf, ha, hne⟩
          obtain ⟨j, f, hf, ha, hne⟩ := this
          have hEf := hE f (List.mem_of_getElem? hf)
          have hx : gt (rep (passP al 0 fs) t (initP N)) f.A.toNat = gt F f.A.toNat ∨ gt (rep (passP al 0 fs) t (initP N)) f.B.toNat = gt F f.B.toNat := by
            apply Classical.byContradiction
            intro hno
            apply hne
            simp only [S, decide_eq_true_eq]
            constructor
            · intro h; exact (hno (.inl h)).elim
            · intro h; exact (hno (.inr h)).elim
          have hhit := pass_hit fs 0 _ (by rw [hrl]; exact hE) hflat (hge t) j f hf ha hx
          obtain ⟨w, hwN, hw1, hw2⟩ : ∃ w, w < N ∧ S t w = false ∧ S (t + 1) w = true := by
            cases eA : S t f.A.toNat with
            | false => exact ⟨f.A.toNat, hEf.1, eA, by simp only [S, decide_eq_true_eq]; exact hhit.1⟩
            | true =>
              cases eB : S t f.B.toNat with
              | false => exact ⟨f.B.toNat, hEf.2, eB, by simp only [S, decide_eq_true_eq]; exact hhit.2⟩
              | true => rw [eA, eB] at hne; exact (hne Iff.rfl).elim
          have hlt : (List.range N).countP (S t) < (List.range N).countP (S (t + 1)) := by
            have e1 : List.range N = List.range w ++ (w :: (List.range (N - w - 1)).map (w + 1 + ·)) := by
              have : N = w + (1 + (N - w - 1)) := by omega
              conv => lhs; rw [this, List.range_add, List.range_add]
              simp [Function.comp_def, Nat.add_assoc]
            rw [e1]
            simp only [List.countP_append, List.countP_cons, hw1, hw2]
            have a1 : (List.range w).countP (S t) ≤ (List.range w).countP (S (t + 1)) := List.countP_mono_left fun v hv h => hmono t v (by have := List.mem_range.1 hv; omega) h
            have a2 : ((List.range (N - w - 1)).map (w + 1 + ·)).countP (S t) ≤ ((List.range (N - w - 1)).map (w + 1 + ·)).countP (S (t + 1)) := List.countP_mono_left fun v hv h => by
              obtain ⟨u, hu, rfl⟩ := List.mem_map.1 hv
              have := List.mem_range.1 hu
              exact hmono t _ (by omega) h
            simp only [↓reduceIte, Bool.false_eq_true]
            omega
          omega
      · right; omega
  have hall : (List.range N).countP (S N) = N := by
    rcases hcount N with h | h
    · have := List.countP_le_length (p := S N) (l := List.range N)
      simp at this; omega
    · exact h
  refine hfin N fun v hv => ?_
  have : ∀ v ∈ List.range N, S N v = true := List.countP_eq_length.1 (by simpa using hall)
  simpa [S] using this v (List.mem_range.2 hv)
end Vs

namespace Vs
open Go
def passS (al : Nat → Bool) : Nat → List TFiber → Bool × List Int → Bool × List Int
  | _, [], p => p
  | i, f :: fs, p => passS al (i + 1) fs (if al i && !(gt p.2 f.A.toNat == gt p.2 f.B.toNat) then (true, relax p.2 f.A.toNat f.B.toNat) else p)
theorem passS_true (al : Nat → Bool) : ∀ (fs : List TFiber) (i : Nat) (o : List Int), (passS al i fs (true, o)).1 = true
  | [], _, _ => rfl
  | f :: fs, i, o => by
    rw [passS]
    split
    · exact passS_true al fs (i + 1) _
    · exact passS_true al fs (i + 1) _
theorem relax_same {o : List Int} {a b : Nat} (ha : a < o.length) (hb : b < o.length) (h : gt o a = gt o b) : relax o a b = o := by
  refine gt_ext (relax_len ..) fun v => ?_
  rw [gt_relax o a b v ha hb]
  have hm := (mn_le (gt o a) (gt o b)).2.2
  split
  · rename_i e
    rcases e with e | e <;> subst e <;> omega
  · rfl
theorem passS_spec (al : Nat → Bool) : ∀ (fs : List TFiber) (i : Nat) (c : Bool) (o : List Int), Ed fs o.length → (passS al i fs (c, o)).2 = passP al i fs o ∧
    ((passS al i fs (c, o)).1 = true → c = true ∨ ∃ w, w < o.length ∧ gt (passP al i fs o) w < gt o w) ∧ ((passS al i fs (c, o)).1 = false → passP al i fs o = o)
  | [], _, c, o, _ => ⟨rfl, fun h => .inl h, fun _ => rfl⟩
  | f :: fs, i, c, o, hE => by
    rw [passS, pass_cons]
    by_cases hc : (al i && !(gt o f.A.toNat == gt o f.B.toNat)) = true
    · rw [if_pos hc]
      simp only [Bool.and_eq_true, Bool.not_eq_true', beq_eq_false_iff_ne, ne_eq] at hc
      have e1 : one al i f o = relax o f.A.toNat f.B.toNat := by unfold one; rw [if_pos hc.1]
      rw [e1]
      have hl : (relax o f.A.toNat f.B.toNat).length = o.length := relax_len ..
      obtain ⟨h1, h2, h3⟩ := passS_spec al fs (i + 1) true (relax o f.A.toNat f.B.toNat) (by rw [hl]; exact hE.tl)
      refine ⟨h1, fun _ => .inr ?_, fun h => ?_⟩
      · have hp := pass_le al fs (i + 1) (relax o f.A.toNat f.B.toNat) (by rw [hl]; exact hE.tl)
        have hm := mn_le (gt o f.A.toNat) (gt o f.B.toNat)
        have ga := gt_relax o f.A.toNat f.B.toNat f.A.toNat hE.hd.1 hE.hd.2
        have gb := gt_relax o f.A.toNat f.B.toNat f.B.toNat hE.hd.1 hE.hd.2
        rw [if_pos (.inl rfl)] at ga
        rw [if_pos (.inr rfl)] at gb
        have pa := hp f.A.toNat
        have pb := hp f.B.toNat
        by_cases hlt : gt o f.A.toNat < gt o f.B.toNat
        · exact ⟨f.B.toNat, hE.hd.2, by omega⟩
        · exact ⟨f.A.toNat, hE.hd.1, by have := hc.2; omega⟩
      · rw [passS_true] at h; cases h
    · rw [if_neg hc]
      have e1 : one al i f o = o := by
        unfold one
        split
        · rename_i ha
          simp only [ha, Bool.true_and, Bool.not_eq_true', Bool.not_eq_false, beq_iff_eq] at hc
          exact relax_same hE.hd.1 hE.hd.2 hc
        · rfl
      rw [e1]
      exact passS_spec al fs (i + 1) c o hE.tl
def sm (g : Nat → Nat) : Nat → Nat
  | 0 => 0
  | n + 1 => sm g n + g n
theorem sm_le {f g : Nat → Nat} : ∀ (n : Nat), (∀ v, v < n → f v ≤ g v) → sm f n ≤ sm g n
  | 0, _ => Nat.le_refl _
  | n + 1, h => by
    have h1 := sm_le n fun v hv => h v (by omega)
    have h2 := h n (by omega)
    simp only [sm]; omega
theorem sm_lt {f g : Nat → Nat} : ∀ (n : Nat), (∀ v, v < n → f v ≤ g v) → (∃ w, w < n ∧ f w < g w) → sm f n < sm g n
  | 0, _, h => by obtain ⟨w, hw, _⟩ := h; omega
  | n + 1, h, ⟨w, hw, hlt⟩ => by
    have h2 := h n (by omega)
    simp only [sm]
    by_cases e : w = n
    · subst e
      have h1 := sm_le (f := f) (g := g) w fun v hv => h v (by omega)
      omega
    · have := sm_lt n (fun v hv => h v (by omega)) ⟨w, by omega, hlt⟩
      omega
theorem sm_bd {f : Nat → Nat} {c : Nat} : ∀ (n : Nat), (∀ v, v < n → f v ≤ c) → sm f n ≤ n * c
  | 0, _ => by simp [sm]
  | n + 1, h => by
    have h1 := sm_bd n fun v hv => h v (by omega)
    have h2 := h n (by omega)
    simp only [sm, Nat.succ_mul]; omega
theorem rep_comm (P : List Int → List Int) : ∀ (n : Nat) (o : List Int), rep P n (P o) = P (rep P n o)
  | 0, _ => rfl
  | n + 1, o => by rw [rep, rep_comm P n o]; rfl
theorem foldI_rep {α : Type} (P : List Int → List Int) : ∀ (xs : List α) (k : Nat) (o : List Int), foldI (fun _ (_ : α) o => P o) k xs o = rep P xs.length o
  | [], _, _ => rfl
  | x :: xs, k, o => by
    rw [foldI, foldI_rep P xs]
    exact rep_comm P xs.length o
theorem foldI_init {α : Type} : ∀ (xs : List α) (k : Nat) (l : List Int), foldI (fun i (_ : α) (l : List Int) => l ++ [(i : Int)]) k xs l = l ++ (List.range' k xs.length).map fun i : Nat => (i : Int)
  | [], _, l => by simp [foldI]
  | x :: xs, k, l => by
    rw [foldI, foldI_init xs]
    simp [List.range'_succ, List.append_assoc]
theorem initP_eq {α : Type} (xs : List α) : foldI (fun i (_ : α) (l : List Int) => l ++ [(i : Int)]) 0 xs [] = initP xs.length := by
  rw [foldI_init, List.nil_append, initP, List.range_eq_range']
theorem initP_len (N : Nat) : (initP N).length = N := by simp [initP]
theorem foldI_pass (al : Nat → Bool) : ∀ (fs : List TFiber) (k : Nat) (o : List Int), foldI (fun i f o => one al i f o) k fs o = passP al k fs o
  | [], _, _ => rfl
  | f :: fs, k, o => by rw [foldI, pass_cons]; exact foldI_pass al fs (k + 1) _
theorem foldI_passS (al : Nat → Bool) : ∀ (fs : List TFiber) (k : Nat) (p : Bool × List Int), foldI (fun i (f : TFiber) (p : Bool × List Int) => if al i && !(gt p.2 f.A.toNat == gt p.2 f.B.toNat) then (true, relax p.2 f.A.toNat f.B.toNat) else p) k fs p = passS al k fs p
  | [], _, _ => rfl
  | f :: fs, k, p => by rw [foldI, passS]; exact foldI_passS al fs (k + 1) _
theorem gt_at {o : List Int} {i : Nat} (h : i < o.length) : o[i]? = some (gt o i) := by
  unfold gt
  rw [List.getD_eq_getElem?_getD, List.getElem?_eq_getElem h]; rfl
theorem fix_loop {al : Nat → Bool} {fs : List TFiber} {N : Nat} (hE : Ed fs N) (hN : 0 < N) (hN2 : N ≤ 1048576) {f : Bool × List Int → Option ((Bool × List Int) ⊕ List Int)}
    (h1 : ∀ o : List Int, o.length = N → f (true, o) = some (.inl (passS al 0 fs (false, o)))) (h2 : ∀ o, f (false, o) = some (.inr o)) : iter f N0 (true, initP N) = some (labels al fs N) := by
  have hrl : ∀ t, (rep (passP al 0 fs) t (initP N)).length = N := fun t => by rw [rep_len, initP_len]
  have hrng : ∀ t v, v < N → 0 ≤ gt (rep (passP al 0 fs) t (initP N)) v ∧ gt (rep (passP al 0 fs) t (initP N)) v < N := by
    intro t
    induction t with
    | zero => intro v hv; rw [rep, gt_init N v hv]; omega
    | succ t ih =>
      intro v hv
      exact pass_rng fs 0 _ (by rw [hrl]; exact hE) (fun v hv => ih v (by rw [hrl] at hv; exact hv)) v (by rw [hrl]; exact hv)
  let μ : Bool × List Int → Nat := fun s => sm (fun v => (gt s.2 v).toNat) N + (if s.1 then 1 else 0)
  let I : Bool × List Int → Prop := fun s => ∃ k, s.2 = rep (passP al 0 fs) k (initP N) ∧ (s.1 = false → passP al 0 fs s.2 = s.2)
  have hbd : μ (true, initP N) < N0 := by
    have := sm_bd (f := fun v => (gt (initP N) v).toNat) (c := N) N fun v hv => by
      show (gt (initP N) v).toNat ≤ N
      rw [gt_init N v hv]; omega
    have h3 : N * N ≤ 1048576 * 1048576 := Nat.mul_le_mul hN2 hN2
    have : μ (true, initP N) ≤ N * N + 1 := by simp only [μ, if_true]; omega
    exact N0_lt (by omega)
  suffices hst : ∀ s, I s → (∃ s', f s = some (.inl s') ∧ I s' ∧ μ s' < μ s) ∨ ∃ b, f s = some (.inr b) ∧ b = labels al fs N by
    obtain ⟨b, hb, hq⟩ := iter_inv (f := f) I μ (fun b => b = labels al fs N) hst N0 (true, initP N) ⟨0, rfl, fun h => by cases h⟩ hbd
    rw [hb, hq]
  rintro ⟨m, o⟩ ⟨k, hk, hfix⟩
  simp only at hk hfix
  cases m with
  | false => exact .inr ⟨o, h2 o, (conv hE hN hk (hfix rfl)).symm⟩
  | true =>
    left
    have hol : o.length = N := by rw [hk]; exact hrl k
    obtain ⟨s1, s2, s3⟩ := passS_spec al fs 0 false o (by rw [hol]; exact hE)
    refine ⟨_, h1 o hol, ⟨k + 1, by rw [s1, hk]; rfl, fun h => ?_⟩, ?_⟩
    · rw [s1]
      have := s3 h
      rw [this, this]
    · simp only [μ]
      have hle : ∀ v, v < N → (gt (passP al 0 fs o) v).toNat ≤ (gt o v).toNat := fun v _ => by
        have := pass_le al fs 0 o (by rw [hol]; exact hE) v
        omega
      rw [s1]
      cases hc : (passS al 0 fs (false, o)).1 with
      | false =>
        have := sm_le (f := fun v => (gt (passP al 0 fs o) v).toNat) (g := fun v => (gt o v).toNat) N hle
        simp only [Bool.false_eq_true, if_false, if_true]; omega
      | true =>
        have : ∃ w, w < N ∧ (gt (passP al 0 fs o) w).toNat < (gt o w).toNat := by
          rcases s2 hc with h | ⟨w, hw, h⟩
          · cases h
          · refine ⟨w, by omega, ?_⟩
            have h4 := (hrng (k + 1) w (by omega)).1
            have e : rep (passP al 0 fs) (k + 1) (initP N) = passP al 0 fs o := by rw [hk]; rfl
            rw [e] at h4
            omega
        have := sm_lt (f := fun v => (gt (passP al 0 fs o) v).toNat) (g := fun v => (gt o v).toNat) N hle this
        simp only [if_true]; omega
end Vs

namespace Vs
open Go
theorem p_ContI (xs : List Int) (v : Int) (hl : xs.length ≤ 1048576) : M_slices_Contains_Lint_int xs v = some (decide (v ∈ xs)) := by
  unfold M_slices_Contains_Lint_int M_slices_Index_Lint_int
  rw [iter_findI (f := M_slices_Index_Lint_intL1 xs v) xs (fun _ x => v == x) (fun i _ => (i : Int)) () (fun i x hx _ => by
    have hlt := (List.getElem?_eq_some_iff.1 hx).1
    have h1 : decide ((i : Int) < xs.length) = true := by simp [hlt]
    simp only [M_slices_Index_Lint_intL1, h1, cond_true, geti_nat, hx, Option.bind_some]
    rw [w64_eq (by omega) (by omega)]
    cases v == x <;> rfl) (by simp [M_slices_Index_Lint_intL1]) (by omega)]
  cases e : findI (fun _ x => v == x) xs with
  | none =>
    have := findI_none.1 e
    have h : ¬ v ∈ xs := fun hm => by
      obtain ⟨i, hi⟩ := List.getElem?_of_mem hm
      have := this i v hi
      simp at this
    rw [decide_eq_false h]; rfl
  | some q =>
    obtain ⟨i, x⟩ := q
    obtain ⟨h1, h2, _⟩ := findI_some.1 e
    have h : v ∈ xs := by
      have := eq_of_beq h2
      rw [this]; exact List.mem_of_getElem? h1
    rw [decide_eq_true h]; simp
theorem p_init1 (n : TNetwork) (hN : n.Nodes.length ≤ 1048576) : iter (M_impl_componentsL1 n) N0 (0, []) = some (initP n.Nodes.length) := by
  rw [← initP_eq n.Nodes]
  exact iter_foldI (f := M_impl_componentsL1 n) n.Nodes (fun i (l : List Int) => ((i : Int), l)) (fun i _ l => l ++ [(i : Int)]) id (fun i l => l.length = i) (fun i l x hx hI => by
    have hlt := (List.getElem?_eq_some_iff.1 hx).1
    have h1 : decide ((i : Int) < n.Nodes.length) = true := by simp [hlt]
    refine ⟨by simp [hI], ?_⟩
    simp only [M_impl_componentsL1, h1, cond_true, bnd, hI]
    rw [grd_t (by omega), w64_eq (by omega) (by omega)]
    rfl) (fun l hI => by simp [M_impl_componentsL1]) [] rfl (by omega)
theorem p_init2 (n : TNetwork) (hN : n.Nodes.length ≤ 1048576) : iter (M_spec_l6LabelsL1 n) N0 (0, []) = some (initP n.Nodes.length) := by
  rw [← initP_eq n.Nodes]
  exact iter_foldI (f := M_spec_l6LabelsL1 n) n.Nodes (fun i (l : List Int) => ((i : Int), l)) (fun i _ l => l ++ [(i : Int)]) id (fun i l => l.length = i) (fun i l x hx hI => by
    have hlt := (List.getElem?_eq_some_iff.1 hx).1
    have h1 : decide ((i : Int) < n.Nodes.length) = true := by simp [hlt]
    refine ⟨by simp [hI], ?_⟩
    simp only [M_spec_l6LabelsL1, h1, cond_true, bnd, hI]
    rw [grd_t (by omega), w64_eq (by omega) (by omega)]
    rfl) (fun l hI => by simp [M_spec_l6LabelsL1]) [] rfl (by omega)
def EdI (fs : List TFiber) (N : Nat) : Prop := ∀ f ∈ fs, 0 ≤ f.A ∧ f.A < N ∧ 0 ≤ f.B ∧ f.B < N
theorem EdI.ed {fs : List TFiber} {N : Nat} (h : EdI fs N) : Ed fs N := fun f hf => by have := h f hf; omega
def alL (gone : List Int) (i : Nat) : Bool := !decide ((i : Int) ∈ gone)
theorem p_pass (n : TNetwork) (gone : List Int) (o : List Int) (hE : EdI n.Fibers o.length) (hF : n.Fibers.length ≤ 1048576) (hg : gone.length ≤ 1048576) :
    iter (M_impl_componentsL3 n gone) N0 (0, o) = some (passP (alL gone) 0 n.Fibers o) := by
  rw [← foldI_pass]
  refine iter_foldI (f := M_impl_componentsL3 n gone) n.Fibers (fun i (l : List Int) => ((i : Int), l)) (fun i f o => one (alL gone) i f o) id (fun _ l => l.length = o.length) (fun i l f hf hI => ?_) (fun l hI => by simp [M_impl_componentsL3]) o rfl (by omega)
  have hlt := (List.getElem?_eq_some_iff.1 hf).1
  have h1 : decide ((i : Int) < n.Fibers.length) = true := by simp [hlt]
  refine ⟨by rw [one_len]; exact hI, ?_⟩
  have hEf := hE f (List.mem_of_getElem? hf)
  rw [← hI] at hEf
  simp only [M_impl_componentsL3, h1, cond_true, geti_nat, hf, Option.bind_some, p_ContI gone i hg, w64_eq (n := (i : Int) + 1) (by omega) (by omega)]
  unfold one
  rcases bt (alL gone i) with e | e
  · have e' : (!decide ((i : Int) ∈ gone)) = true := e
    rw [e', cond_true, grd_t ⟨hEf.1, hEf.2.1⟩, grd_t ⟨hEf.2.2.1, hEf.2.2.2⟩]
    simp only [Option.bind_some, gt_at (show f.A.toNat < l.length by omega), gt_at (show f.B.toNat < l.length by omega), bnd, e, if_true]
    rw [List.getElem?_eq_getElem (by simp; omega)]
    rfl
  · have e' : (!decide ((i : Int) ∈ gone)) = false := e
    rw [e', cond_false, e]; rfl
theorem p_components (n : TNetwork) (gone : List Int) (hE : EdI n.Fibers n.Nodes.length) (hN : n.Nodes.length ≤ 1048576) (hF : n.Fibers.length ≤ 1048576) (hg : gone.length ≤ 1048576) :
    M_impl_components n gone = some (labels (alL gone) n.Fibers n.Nodes.length) := by
  unfold M_impl_components
  rw [p_init1 n hN]
  simp only [Option.bind_some]
  have : iter (M_impl_componentsL2 n gone) N0 (0, initP n.Nodes.length) = some (labels (alL gone) n.Fibers n.Nodes.length) := by
    unfold labels
    rw [← foldI_rep (passP (alL gone) 0 n.Fibers) n.Nodes 0 (initP n.Nodes.length)]
    refine iter_foldI (f := M_impl_componentsL2 n gone) n.Nodes (fun i (l : List Int) => ((i : Int), l)) (fun _ _ o => passP (alL gone) 0 n.Fibers o) id (fun _ l => l.length = n.Nodes.length) (fun i l x hx hI => ?_) (fun l hI => by simp [M_impl_componentsL2]) _ (initP_len _) (by omega)
    have hlt := (List.getElem?_eq_some_iff.1 hx).1
    have h1 : decide ((i : Int) < n.Nodes.length) = true := by simp [hlt]
    refine ⟨by rw [pass_len]; exact hI, ?_⟩
    simp only [M_impl_componentsL2, h1, cond_true]
    rw [p_pass n gone l (by rw [hI]; exact hE) hF hg, w64_eq (by omega) (by omega)]
    rfl
  rw [this]; rfl
def alM (g : Int) (i : Nat) : Bool := !(bits .and .i64 (Int.fdiv g (2 ^ (min i (IntKind.bits .i64)))) 1 == 1)
theorem p_passS (n : TNetwork) (g : Int) (o : List Int) (hE : EdI n.Fibers o.length) (hF : n.Fibers.length ≤ 1048576) :
    iter (M_spec_l6LabelsL3 n g) N0 (false, 0, o) = some (passS (alM g) 0 n.Fibers (false, o)) := by
  rw [← foldI_passS]
  refine iter_foldI (f := M_spec_l6LabelsL3 n g) n.Fibers (fun i (p : Bool × List Int) => (p.1, (i : Int), p.2)) (fun i (f : TFiber) (p : Bool × List Int) => if alM g i && !(gt p.2 f.A.toNat == gt p.2 f.B.toNat) then (true, relax p.2 f.A.toNat f.B.toNat) else p) id (fun _ p => p.2.length = o.length) (fun i p f hf hI => ?_) (fun l hI => by simp [M_spec_l6LabelsL3]) (false, o) rfl (by omega)
  have hlt := (List.getElem?_eq_some_iff.1 hf).1
  have h1 : decide ((i : Int) < n.Fibers.length) = true := by simp [hlt]
  refine ⟨by split <;> simp [relax_len, hI], ?_⟩
  have hEf := hE f (List.mem_of_getElem? hf)
  rw [← hI] at hEf
  have gA := gt_at (o := p.2) (show f.A.toNat < p.2.length by omega)
  have gB := gt_at (o := p.2) (show f.B.toNat < p.2.length by omega)
  simp only [M_spec_l6LabelsL3, h1, cond_true, geti_nat, hf, Option.bind_some, w64_eq (n := (i : Int) + 1) (by omega) (by omega), w64u_eq (n := (i : Int)) (by omega) (by omega), Int.toNat_natCast]
  rw [grd_t (by omega), grd_t ⟨hEf.1, hEf.2.1⟩, grd_t ⟨hEf.2.2.1, hEf.2.2.2⟩]
  simp only [Option.bind_some, gA, gB, bnd]
  have eb : (bits .and .i64 (Int.fdiv g (2 ^ (min i (IntKind.bits .i64)))) 1 == 1) = !alM g i := by simp [alM]
  rw [eb]
  rcases bt (alM g i) with e | e
  · simp only [e, Bool.not_true, cond_false, Option.bind_some, Bool.true_and]
    rcases bt (gt p.2 f.A.toNat == gt p.2 f.B.toNat) with e2 | e2
    · simp only [e2, cond_true, Bool.not_true, Bool.false_eq_true, if_false]
      rfl
    · simp only [e2, cond_false, Bool.not_false, if_true]
      have hm : M_spec_l1Least (gt p.2 f.A.toNat) (gt p.2 f.B.toNat) = some (mn (gt p.2 f.A.toNat) (gt p.2 f.B.toNat)) := by
        have hne : gt p.2 f.A.toNat ≠ gt p.2 f.B.toNat := by simpa using e2
        unfold M_spec_l1Least mn
        by_cases h2 : gt p.2 f.A.toNat < gt p.2 f.B.toNat
        · rw [decide_eq_true h2, cond_true, if_neg (by omega)]
        · rw [decide_eq_false h2, cond_false, if_pos (by omega)]
      simp only [hm, Option.bind_some]
      rw [List.getElem?_eq_getElem (by simp; omega)]
      rfl
  · simp only [e, Bool.not_false, cond_true, Option.bind_some, Bool.false_and, Bool.false_eq_true, if_false]
    rfl
theorem p_l6Labels (n : TNetwork) (g : Int) (hE : EdI n.Fibers n.Nodes.length) (hN0 : 0 < n.Nodes.length) (hN : n.Nodes.length ≤ 1048576) (hF : n.Fibers.length ≤ 1048576) :
    M_spec_l6Labels n g = some (labels (alM g) n.Fibers n.Nodes.length) := by
  unfold M_spec_l6Labels
  rw [p_init2 n hN]
  simp only [Option.bind_some]
  rw [fix_loop (al := alM g) (fs := n.Fibers) (N := n.Nodes.length) (f := M_spec_l6LabelsL2 n g) hE.ed hN0 hN (fun o ho => by
    simp only [M_spec_l6LabelsL2, cond_true]
    rw [p_passS n g o (by rw [ho]; exact hE) hF]
    rfl) (fun o => by simp [M_spec_l6LabelsL2])]
  rfl
end Vs

namespace Vs
open Go
theorem bits64 : IntKind.bits .i64 = 64 := rfl
theorem ofNat64 (a : Nat) : BitVec.ofInt 64 (a : Int) = BitVec.ofNat 64 a := by
  apply BitVec.eq_of_toNat_eq
  simp [BitVec.toNat_ofInt]
theorem bor (a b : Nat) (ha : a < 2 ^ 62) (hb : b < 2 ^ 62) : bits .or .i64 (a : Int) (b : Int) = ((a ||| b : Nat) : Int) := by
  have hab : a ||| b < 2 ^ 62 := Nat.or_lt_two_pow ha hb
  show IntKind.wrap .i64 ((BitVec.ofInt 64 (a : Int) ||| BitVec.ofInt 64 (b : Int)).toNat : Int) = _
  rw [ofNat64, ofNat64, BitVec.toNat_or, BitVec.toNat_ofNat, BitVec.toNat_ofNat, Nat.mod_eq_of_lt (by omega), Nat.mod_eq_of_lt (by omega), w64_eq (by omega) (by omega)]
theorem tbit (m i : Nat) (hi : i < 64) (hm : m < 2 ^ 62) : (bits .and .i64 (Int.fdiv (m : Int) (2 ^ (min i (IntKind.bits .i64)))) 1 == 1) = m.testBit i := by
  have e1 : min i (IntKind.bits .i64) = i := by rw [bits64]; omega
  have e2 : Int.fdiv (m : Int) (2 ^ i) = ((m / 2 ^ i : Nat) : Int) := by
    rw [Int.fdiv_eq_ediv_of_nonneg _ (by exact_mod_cast Nat.zero_le (2 ^ i))]
    simp
  have hlt : m / 2 ^ i < 2 ^ 62 := Nat.lt_of_le_of_lt (Nat.div_le_self ..) hm
  rw [e1, e2]
  have e3 : bits .and .i64 ((m / 2 ^ i : Nat) : Int) 1 = ((m / 2 ^ i % 2 : Nat) : Int) := by
    show IntKind.wrap .i64 ((BitVec.ofInt 64 ((m / 2 ^ i : Nat) : Int) &&& BitVec.ofInt 64 ((1 : Nat) : Int)).toNat : Int) = _
    rw [ofNat64, ofNat64, BitVec.toNat_and, BitVec.toNat_ofNat, BitVec.toNat_ofNat, Nat.mod_eq_of_lt (by omega), Nat.mod_eq_of_lt (by omega), Nat.and_one_is_mod, w64_eq (by omega) (by omega)]
  rw [e3, Nat.testBit_eq_decide_div_mod_eq]
  have := Nat.mod_two_eq_zero_or_one (m / 2 ^ i)
  rcases this with h | h <;> rw [h] <;> rfl
theorem shl1 (x : Nat) (hx : x < 62) : IntKind.wrap .i64 (1 * 2 ^ (min x (IntKind.bits .i64))) = ((2 ^ x : Nat) : Int) := by
  have e1 : min x (IntKind.bits .i64) = x := by rw [bits64]; omega
  have h : 2 ^ x < 2 ^ 62 := Nat.pow_lt_pow_right (by omega) hx
  have e2 : ((1 : Int) * 2 ^ x) = ((2 ^ x : Nat) : Int) := by simp
  have key : ∀ q : Nat, q < 2 ^ 62 → IntKind.wrap .i64 (q : Int) = (q : Int) := fun q hq => w64_eq (by omega) (by omega)
  rw [e1, e2, key _ h]
theorem mask_spec : ∀ (g : List Int) (k : Nat) (m : Nat), (∀ x ∈ g, 0 ≤ x ∧ x < 62) → m < 2 ^ 62 → ∃ m' : Nat, foldI bitG k g (m : Int) = (m' : Int) ∧ m' < 2 ^ 62 ∧ ∀ i, m'.testBit i = (m.testBit i || decide ((i : Int) ∈ g))
  | [], _, m, _, hm => ⟨m, rfl, hm, fun i => by simp⟩
  | x :: g, k, m, hg, hm => by
    have hx := hg x List.mem_cons_self
    have hp : 2 ^ x.toNat < 2 ^ 62 := Nat.pow_lt_pow_right (by omega) (by omega)
    have e : bitG k x (m : Int) = ((m ||| 2 ^ x.toNat : Nat) : Int) := by
      unfold bitG
      rw [shl1 x.toNat (by omega), bor m _ hm hp]
    obtain ⟨m', h1, h2, h3⟩ := mask_spec g (k + 1) (m ||| 2 ^ x.toNat) (fun y hy => hg y (List.mem_cons_of_mem _ hy)) (Nat.or_lt_two_pow hm hp)
    refine ⟨m', by rw [foldI, e]; exact h1, h2, fun i => ?_⟩
    rw [h3, Nat.testBit_or, Nat.testBit_two_pow, Bool.or_assoc]
    congr 1
    by_cases h : x.toNat = i
    · have : x = (i : Int) := by omega
      simp [this]
    · have : ¬ ((i : Int) = x) := by omega
      simp [h, this]
theorem maskP_spec (g : List Int) (hg : ∀ x ∈ g, 0 ≤ x ∧ x < 62) : ∃ m : Nat, maskP g = (m : Int) ∧ m < 2 ^ 62 ∧ ∀ i, m.testBit i = decide ((i : Int) ∈ g) := by
  obtain ⟨m, h1, h2, h3⟩ := mask_spec g 0 0 hg (by decide)
  exact ⟨m, h1, h2, fun i => by rw [h3]; simp⟩
def bitB (s : Int) (i : Nat) : Bool := bits .and .i64 (Int.fdiv s (2 ^ (min i (IntKind.bits .i64)))) 1 == 1
def goneL (s : Int) (gr : List (List Int)) : List Int := foldI (fun i g (a : List Int) => if bitB s i then a ++ g else a) 0 gr []
def goneM (s : Int) (gr : List (List Int)) : Int := foldI (fun i g (a : Int) => if bitB s i then bits .or .i64 a (maskP g) else a) 0 gr 0
theorem gone_spec (s : Int) : ∀ (gr : List (List Int)) (k : Nat) (l : List Int) (m : Nat), (∀ g ∈ gr, ∀ x ∈ g, 0 ≤ x ∧ x < 62) → m < 2 ^ 62 → (∀ i, m.testBit i = decide ((i : Int) ∈ l)) →
    ∃ m' : Nat, foldI (fun i g (a : Int) => if bitB s i then bits .or .i64 a (maskP g) else a) k gr (m : Int) = (m' : Int) ∧ m' < 2 ^ 62 ∧
      ∀ i, m'.testBit i = decide ((i : Int) ∈ foldI (fun i g (a : List Int) => if bitB s i then a ++ g else a) k gr l)
  | [], _, l, m, _, hm, h => ⟨m, rfl, hm, h⟩
  | g :: gr, k, l, m, hg, hm, h => by
    simp only [foldI]
    rcases bt (bitB s k) with e | e
    · obtain ⟨q, q1, q2, q3⟩ := maskP_spec g (hg g List.mem_cons_self)
      simp only [e, if_true, q1, bor m q hm q2]
      exact gone_spec s gr (k + 1) (l ++ g) (m ||| q) (fun g' h' => hg g' (List.mem_cons_of_mem _ h')) (Nat.or_lt_two_pow hm q2) fun i => by
        rw [Nat.testBit_or, h, q3]; simp
    · simp only [e, Bool.false_eq_true, if_false]
      exact gone_spec s gr (k + 1) l m (fun g' h' => hg g' (List.mem_cons_of_mem _ h')) hm h
theorem al_eq (s : Int) (gr : List (List Int)) (hg : ∀ g ∈ gr, ∀ x ∈ g, 0 ≤ x ∧ x < 62) (i : Nat) (hi : i < 64) : alM (goneM s gr) i = alL (goneL s gr) i := by
  obtain ⟨m, h1, h2, h3⟩ := gone_spec s gr 0 [] 0 hg (by decide) (fun i => by simp)
  have e : goneM s gr = (m : Int) := h1
  unfold alM alL
  rw [e, tbit m i hi h2, h3]
  rfl
theorem passP_congr {al al' : Nat → Bool} : ∀ (fs : List TFiber) (k : Nat) (o : List Int), (∀ i, i < k + fs.length → al i = al' i) → passP al k fs o = passP al' k fs o
  | [], _, _, _ => rfl
  | f :: fs, k, o, h => by
    rw [pass_cons, pass_cons]
    have e : one al k f o = one al' k f o := by unfold one; rw [h k (by simp)]
    rw [e]
    exact passP_congr fs (k + 1) _ fun i hi => h i (by simp only [List.length_cons]; omega)
theorem labels_congr {al al' : Nat → Bool} {fs : List TFiber} {N : Nat} (h : ∀ i, i < fs.length → al i = al' i) : labels al fs N = labels al' fs N := by
  unfold labels
  have : passP al 0 fs = passP al' 0 fs := funext fun o => passP_congr fs 0 o fun i hi => h i (by omega)
  rw [this]
end Vs

namespace Vs
open Go
theorem wrap_rng (x : Int) : -9223372036854775808 ≤ IntKind.wrap .i64 x ∧ IntKind.wrap .i64 x ≤ 9223372036854775807 := by
  rw [IntKind.wrap_i64]; omega
theorem idxs_rng {r : Int} {fs : List TFiber} (h : fs.length ≤ 14) : ∀ x ∈ idxs r 0 fs, 0 ≤ x ∧ x < 14 := by
  intro x hx
  obtain ⟨j, f, hj, _, rfl⟩ := (idxs_mem r fs 0 x).1 hx
  have := (List.getElem?_eq_some_iff.1 hj).1
  omega
theorem groups_rng {n : TNetwork} (h : n.Fibers.length ≤ 14) : ∀ g ∈ groupsP n, g.length ≤ 14 ∧ ∀ x ∈ g, 0 ≤ x ∧ x < 14 := by
  intro g hg
  unfold groupsP at hg
  rw [List.mem_append] at hg
  rcases hg with hg | hg
  · obtain ⟨r, _, rfl⟩ := List.mem_map.1 (List.mem_filter.1 hg).1
    exact ⟨Nat.le_trans (idxs_len ..) h, idxs_rng h⟩
  · obtain ⟨x, hx, rfl⟩ := List.mem_map.1 hg
    exact ⟨by simp, fun y hy => by rw [List.mem_singleton.1 hy]; exact idxs_rng h x hx⟩
theorem goneL_len (s : Int) : ∀ (gr : List (List Int)) (k : Nat) (l : List Int), (∀ g ∈ gr, g.length ≤ 14) → (foldI (fun i g (a : List Int) => if bitB s i then a ++ g else a) k gr l).length ≤ l.length + 14 * gr.length
  | [], _, l, _ => by simp [foldI]
  | g :: gr, k, l, h => by
    have h1 := h g List.mem_cons_self
    simp only [foldI]
    split
    · have := goneL_len s gr (k + 1) (l ++ g) fun g' h' => h g' (List.mem_cons_of_mem _ h')
      simp only [List.length_append, List.length_cons] at this ⊢; omega
    · have := goneL_len s gr (k + 1) l fun g' h' => h g' (List.mem_cons_of_mem _ h')
      simp only [List.length_cons]; omega
def conP (n : TNetwork) (o : TOutage) (hp : List Int → Bool) : Int :=
  foldI (fun i (_ : Nat) (a : Int) => if hp (goneL (i : Int) (groupsP n)) then IntKind.wrap .i64 (a + weightP o (i : Int)) else a) 0 (List.range (2 ^ (groupsP n).length)) 0
theorem p_goneL (s : Int) (w : Int) (gr : List (List Int)) (hg : ∀ g ∈ gr, g.length ≤ 14) (hK : gr.length ≤ 23) : iter (M_impl_Outage_chanceL2 gr (w, s)) N0 (0, []) = some (goneL s gr) := by
  refine iter_foldI (f := M_impl_Outage_chanceL2 gr (w, s)) gr (fun i (l : List Int) => ((i : Int), l)) (fun i g (a : List Int) => if bitB s i then a ++ g else a) id (fun i l => l.length ≤ 14 * i) (fun i l g hx hI => ?_) (fun l hI => by simp [M_impl_Outage_chanceL2]) [] (by simp) (by omega)
  have hlt := (List.getElem?_eq_some_iff.1 hx).1
  have h1 : decide ((i : Int) < gr.length) = true := by simp [hlt]
  have hgl := hg g (List.mem_of_getElem? hx)
  refine ⟨by
    split
    · rw [List.length_append]; omega
    · omega, ?_⟩
  simp only [M_impl_Outage_chanceL2, h1, cond_true, Int.toNat_natCast, hx, bnd]
  rw [grd_t ⟨by omega, by omega⟩, grd_t (by omega), w64_eq (n := (i : Int) + 1) (by omega) (by omega)]
  simp only [Option.bind_some]
  have eb : (bits .and .i64 (Int.fdiv s (2 ^ (min i (IntKind.bits .i64)))) 1 == 1) = bitB s i := rfl
  rw [eb]
  rcases bt (bitB s i) with e | e
  · rw [e, cond_true, grd_t (by omega)]; rfl
  · rw [e, cond_false]; rfl
theorem p_goneM (s : Int) (gr : List (List Int)) (hg : ∀ g ∈ gr, g.length ≤ 14 ∧ ∀ x ∈ g, 0 ≤ x ∧ x < 14) (hK : gr.length ≤ 23) : M_spec_l16Gone gr s = some (goneM s gr) := by
  unfold M_spec_l16Gone
  have : iter (M_spec_l16GoneL1 gr s) N0 (0, 0) = some (goneM s gr) := by
    refine iter_foldI (f := M_spec_l16GoneL1 gr s) gr (fun i (a : Int) => (a, (i : Int))) (fun i g (a : Int) => if bitB s i then bits .or .i64 a (maskP g) else a) id (fun i l => True) (fun i a g hx hI => ?_) (fun l hI => by simp [M_spec_l16GoneL1]) 0 trivial (by omega)
    have hlt := (List.getElem?_eq_some_iff.1 hx).1
    have h1 : decide ((i : Int) < gr.length) = true := by simp [hlt]
    have hgl := hg g (List.mem_of_getElem? hx)
    refine ⟨trivial, ?_⟩
    simp only [M_spec_l16GoneL1, h1, cond_true, geti_nat, hx, w64u_eq (n := (i : Int)) (by omega) (by omega), Int.toNat_natCast]
    rw [grd_t (by omega), w64_eq (n := (i : Int) + 1) (by omega) (by omega)]
    simp only [Option.bind_some, p_l6Mask g (fun x hx => by have := hgl.2 x hx; omega) (by omega)]
    have eb : (bits .and .i64 (Int.fdiv s (2 ^ (min i (IntKind.bits .i64)))) 1 == 1) = bitB s i := rfl
    rw [eb]
    rcases bt (bitB s i) with e | e
    · rw [e, cond_true]; rfl
    · rw [e, cond_false]; rfl
  rw [this]; rfl
theorem range_at {L i x : Nat} (h : (List.range L)[i]? = some x) : x = i ∧ i < L := by
  obtain ⟨h1, h2⟩ := List.getElem?_eq_some_iff.1 h
  simp at h1 h2
  exact ⟨h2.symm, h1⟩
theorem pow_lim {K : Nat} (h : K ≤ 23) : 2 ^ K ≤ 8388608 := by
  have : 2 ^ K ≤ 2 ^ 23 := Nat.pow_le_pow_right (by omega) h
  omega
theorem p_chance (n : TNetwork) (o : TOutage) (hz : n.Fibers.length ≤ 14) (ho : o.Down.length ≤ 1048576) (h : List Int → Option Bool) (hp : List Int → Bool) (hh : ∀ l, l.length ≤ 1048576 → h l = some (hp l)) :
    M_impl_Outage_chance o n h = some (conP n o hp) := by
  unfold M_impl_Outage_chance conP
  rw [p_groups n hz]
  simp only [Option.bind_some]
  have hK := groupsP_len n hz
  have hgr := groups_rng hz
  generalize groupsP n = gr at hK hgr
  have hL := pow_lim hK
  rw [grd_t (by omega)]
  simp only [Option.bind_some]
  have : iter (M_impl_Outage_chanceL1 o h gr) N0 (0, 0) = some (foldI (fun i (_ : Nat) (a : Int) => if hp (goneL (i : Int) gr) then IntKind.wrap .i64 (a + weightP o (i : Int)) else a) 0 (List.range (2 ^ gr.length)) 0) := by
    refine iter_foldI (f := M_impl_Outage_chanceL1 o h gr) (List.range (2 ^ gr.length)) (fun i (a : Int) => (a, (i : Int))) _ id (fun i a => -9223372036854775808 ≤ a ∧ a ≤ 9223372036854775807) (fun i a x hx hI => ?_) (fun a hI => ?_) 0 (by omega) (by simp; omega)
    · obtain ⟨rfl, hi⟩ := range_at hx
      refine ⟨by split; exact wrap_rng _; exact hI, ?_⟩
      have h1 : decide ((x : Int) < IntKind.wrap .i64 (1 * 2 ^ (min gr.length (IntKind.bits .i64)))) = true := by
        rw [shl1 _ (by omega)]; exact decide_eq_true (by exact_mod_cast hi)
      simp only [M_impl_Outage_chanceL1, h1, cond_true, p_impl_weight o _ ho, Option.bind_some, p_goneL (x : Int) a gr (fun g hg => (hgr g hg).1) hK, w64_eq (n := (x : Int) + 1) (by omega) (by omega)]
      have hgl : (goneL (x : Int) gr).length ≤ 1048576 := by
        have := goneL_len (x : Int) gr 0 [] fun g hg => (hgr g hg).1
        unfold goneL
        simp only [List.length_nil] at this; omega
      rw [hh _ hgl]
      simp only [Option.bind_some]
      rcases bt (weightP o (x : Int) == 0) with e | e
      · rw [e, cond_true]
        have e0 : weightP o (x : Int) = 0 := eq_of_beq e
        rw [e0, Int.add_zero, w64_eq (n := a) (by omega) (by omega)]
        split <;> rfl
      · rw [e, cond_false]
        rcases bt (hp (goneL (x : Int) gr)) with e2 | e2
        · rw [e2, cond_true]; rfl
        · rw [e2, cond_false]; rfl
    · have h1 : decide (((List.range (2 ^ gr.length)).length : Int) < IntKind.wrap .i64 (1 * 2 ^ (min gr.length (IntKind.bits .i64)))) = false := by
        rw [shl1 _ (by omega)]; simp
      simp only [M_impl_Outage_chanceL1, h1, cond_false]; rfl
  rw [this]; rfl
end Vs

namespace Vs
open Go
theorem labels_len (al : Nat → Bool) (fs : List TFiber) (N : Nat) : (labels al fs N).length = N := by unfold labels; rw [rep_len, initP_len]
def allZ (l : List Int) : Bool := l.all fun x => x == 0
theorem foldI_allZ : ∀ (xs : List Int) (k : Nat) (b : Bool), foldI (fun _ (x : Int) (b : Bool) => if b then x == 0 else false) k xs b = (b && allZ xs)
  | [], _, b => by simp [foldI, allZ]
  | x :: xs, k, b => by
    rw [foldI, foldI_allZ xs]
    cases b <;> simp [allZ]
theorem p_allZ (xs : List Int) (hl : xs.length ≤ 1048576) : iter (M_spec_l16ConnectedL2 xs) N0 (true, 0) = some (allZ xs) := by
  have := iter_foldI (f := M_spec_l16ConnectedL2 xs) xs (fun i (b : Bool) => (b, (i : Int))) (fun _ (x : Int) (b : Bool) => if b then x == 0 else false) id (fun _ _ => True) (fun i b x hx _ => by
    have hlt := (List.getElem?_eq_some_iff.1 hx).1
    have h1 : decide ((i : Int) < xs.length) = true := by simp [hlt]
    refine ⟨trivial, ?_⟩
    simp only [M_spec_l16ConnectedL2, h1, cond_true, Int.toNat_natCast, hx, w64_eq (n := (i : Int) + 1) (by omega) (by omega)]
    rw [grd_t ⟨by omega, by omega⟩]
    cases b <;> rfl) (fun b _ => by simp [M_spec_l16ConnectedL2]) true trivial (by omega)
  rw [foldI_allZ] at this
  exact this
def qB (fr to : Int) (lab : List Int) : Bool := if fr < 0 then allZ lab else gt lab fr.toNat == gt lab to.toNat
def labG (n : TNetwork) (l : List Int) : List Int := labels (alL l) n.Fibers n.Nodes.length
theorem net_ed {n : TNetwork} (h : netOk n = true) : EdI n.Fibers n.Nodes.length := by
  intro f hf
  obtain ⟨i, hi⟩ := List.getElem?_of_mem hf
  have := netOk_fib h hi
  obtain ⟨h1, h2, h3⟩ := this
  omega
theorem p_l16Connected (n : TNetwork) (o : TOutage) (fr to : Int) (h : netOk n = true) (ho : o.Down.length ≤ 1048576) (hft : fr < 0 ∨ (0 ≤ fr ∧ fr < n.Nodes.length ∧ 0 ≤ to ∧ to < n.Nodes.length)) :
    M_spec_l16Connected n o fr to = some (conP n o fun l => qB fr to (labG n l)) := by
  have hb := netOk_b h
  have hE := net_ed h
  unfold M_spec_l16Connected conP
  rw [p_l2Groups n (by omega)]
  simp only [Option.bind_some]
  have hK := groupsP_len n (by omega)
  have hgr := groups_rng (n := n) (by omega)
  generalize groupsP n = gr at hK hgr
  have hL := pow_lim hK
  have : iter (M_spec_l16ConnectedL1 n o fr to gr) N0 (0, 0) = some (foldI (fun i (_ : Nat) (a : Int) => if qB fr to (labG n (goneL (i : Int) gr)) then IntKind.wrap .i64 (a + weightP o (i : Int)) else a) 0 (List.range (2 ^ gr.length)) 0) := by
    have hu : IntKind.wrap .u64 (gr.length : Int) = (gr.length : Int) := w64u_eq (by omega) (by omega)
    refine iter_foldI (f := M_spec_l16ConnectedL1 n o fr to gr) (List.range (2 ^ gr.length)) (fun i (a : Int) => (a, (i : Int))) _ id (fun i a => True) (fun i a x hx hI => ?_) (fun a hI => ?_) 0 trivial (by simp; omega)
    · obtain ⟨rfl, hi⟩ := range_at hx
      refine ⟨trivial, ?_⟩
      have h1 : decide ((x : Int) < IntKind.wrap .i64 (1 * 2 ^ (min gr.length (IntKind.bits .i64)))) = true := by
        rw [shl1 _ (by omega)]; exact decide_eq_true (by exact_mod_cast hi)
      have hlab : M_spec_l6Labels n (goneM (x : Int) gr) = some (labG n (goneL (x : Int) gr)) := by
        rw [p_l6Labels n _ hE (by omega) (by omega) (by omega)]
        unfold labG
        rw [labels_congr fun i hi => al_eq (x : Int) gr (fun g hg y hy => by have := (hgr g hg).2 y hy; omega) i (by omega)]
      have hlen : (labG n (goneL (x : Int) gr)).length = n.Nodes.length := labels_len ..
      simp only [M_spec_l16ConnectedL1, hu, Int.toNat_natCast]
      rw [grd_t (by omega)]
      simp only [h1, cond_true, Option.bind_some, p_goneM (x : Int) gr hgr hK, hlab, w64_eq (n := (x : Int) + 1) (by omega) (by omega)]
      generalize labG n (goneL (x : Int) gr) = lab at hlen
      have hq : ((cond (decide (0 ≤ fr)) ((grd (0 ≤ fr ∧ fr < (lab.length : Int))).bind fun kZ8 => (lab[(Int.toNat fr)]?).bind fun yZ9 => (grd (0 ≤ to ∧ to < (lab.length : Int))).bind fun kZ10 => (lab[(Int.toNat to)]?).bind fun yZ11 => some (yZ9 == yZ11)) (some false) : Option Bool).bind fun oZ12 => (cond (decide (fr < 0)) ((iter (M_spec_l16ConnectedL2 lab) N0 (true, 0)).bind fun oZ19 => some oZ19) (some oZ12) : Option Bool)) = some (qB fr to lab) := by
        unfold qB
        rcases hft with hf | ⟨f1, f2, f3, f4⟩
        · rw [decide_eq_false (show ¬ 0 ≤ fr by omega), cond_false, decide_eq_true hf, if_pos hf]
          simp only [Option.bind_some, cond_true, p_allZ lab (by omega)]
        · rw [decide_eq_true f1, decide_eq_false (show ¬ fr < 0 by omega), if_neg (show ¬ fr < 0 by omega), grd_t ⟨f1, by omega⟩, grd_t ⟨f3, by omega⟩]
          simp only [Option.bind_some, cond_true, cond_false, gt_at (show fr.toNat < lab.length by omega), gt_at (show to.toNat < lab.length by omega)]
      have hassoc : ∀ {α β γ : Type} (m : Option α) (f : α → Option β) (g : β → Option γ), (m.bind fun x => (f x).bind g) = (m.bind f).bind g := fun m f g => by cases m <;> rfl
      rw [hassoc, hq]
      simp only [Option.bind_some]
      rcases bt (qB fr to lab) with e | e
      · rw [e, cond_true, p_spec_weight o _ ho]; rfl
      · rw [e, cond_false]; rfl
    · have h1 : decide (((List.range (2 ^ gr.length)).length : Int) < IntKind.wrap .i64 (1 * 2 ^ (min gr.length (IntKind.bits .i64)))) = false := by
        rw [shl1 _ (by omega)]; simp
      simp only [M_spec_l16ConnectedL1, hu, Int.toNat_natCast]
      rw [grd_t (by omega)]
      simp only [h1, cond_false]; rfl
  rw [this]; rfl
end Vs

namespace Vs
open Go
def endsB (n : TNetwork) (fr to : Int) : Bool := wi fr 0 ((n.Nodes.length : Int) - 1) && wi to 0 ((n.Nodes.length : Int) - 1) && (fr != to)
theorem p_isNode (n : TNetwork) (l : List Int) (hz : z_Network n ≤ 1048576) (hl : l.length ≤ 1048576) : M_impl_isNode n l = some (netOk n && !l.any fun x => !wi x 0 ((n.Nodes.length : Int) - 1)) := by
  obtain ⟨h1, _, _⟩ := z_net hz
  unfold M_impl_isNode
  rw [p_IsValidNetwork n hz, p_ContainsFunc_i l (fun x0 => M_impl_isNode_c1 x0 n) (fun x => !wi x 0 ((n.Nodes.length : Int) - 1)) (fun x => by
    unfold M_impl_isNode_c1
    rw [w64_eq (by omega) (by omega)]
    simp only [p_within, Option.bind_some]) hl]
  cases netOk n <;> rfl
theorem p_isConnection (n : TNetwork) (o : TOutage) (fr to : Int) (hz : z_Network n ≤ 1048576) (ho : o.Down.length ≤ 1048576) : M_impl_isConnection n o fr to = some (outOk n o && endsB n fr to) := by
  unfold M_impl_isConnection endsB
  simp only [p_impl_Outage n o hz ho, Option.bind_some, bnd, p_isNode n [fr, to] hz (by simp)]
  rcases bt (outOk n o) with e | e
  · have hn : netOk n = true := by
      unfold outOk at e
      simp only [Bool.and_eq_true] at e
      exact e.1.1.1
    have ea : ([fr, to].any fun x => !wi x 0 ((n.Nodes.length : Int) - 1)) = (!wi fr 0 ((n.Nodes.length : Int) - 1) || !wi to 0 ((n.Nodes.length : Int) - 1)) := by simp [List.any]
    rw [e, hn, ea]
    cases wi fr 0 ((n.Nodes.length : Int) - 1) <;> cases wi to 0 ((n.Nodes.length : Int) - 1) <;> simp
  · rw [e]; rfl
theorem p_l6Ends (n : TNetwork) (fr to : Int) (hz : z_Network n ≤ 1048576) : M_spec_l6Ends n fr to = some (netOk n && endsB n fr to) := by
  obtain ⟨h1, _, _⟩ := z_net hz
  unfold M_spec_l6Ends endsB
  rw [w64_eq (by omega) (by omega)]
  simp only [p_l2Good n hz, p_l1In, Option.bind_some]
  cases netOk n <;> cases wi fr 0 ((n.Nodes.length : Int) - 1) <;> cases wi to 0 ((n.Nodes.length : Int) - 1) <;> simp
theorem ends_rng {n : TNetwork} {fr to : Int} (h : endsB n fr to = true) : 0 ≤ fr ∧ fr < n.Nodes.length ∧ 0 ≤ to ∧ to < n.Nodes.length := by
  unfold endsB at h
  simp only [Bool.and_eq_true, wi_iff] at h
  omega
theorem p_conn_c1 (n : TNetwork) (h : netOk n = true) (fr to : Int) (he : endsB n fr to = true) (l : List Int) (hl : l.length ≤ 1048576) : M_impl_Outage_connection_c1 l n fr to = some (qB fr to (labG n l)) := by
  have hb := netOk_b h
  have hE := net_ed h
  obtain ⟨f1, f2, f3, f4⟩ := ends_rng he
  unfold M_impl_Outage_connection_c1 qB
  rw [p_components n l hE (by omega) (by omega) hl, if_neg (by omega)]
  have hlen : (labG n l).length = n.Nodes.length := labels_len ..
  have e : labels (alL l) n.Fibers n.Nodes.length = labG n l := rfl
  rw [e]
  generalize labG n l = lab at hlen
  simp only [Option.bind_some]
  rw [grd_t ⟨f1, by omega⟩, grd_t ⟨f3, by omega⟩]
  simp only [Option.bind_some, gt_at (show fr.toNat < lab.length by omega), gt_at (show to.toNat < lab.length by omega)]
theorem p_connection (n : TNetwork) (o : TOutage) (fr to : Int) (h : netOk n = true) (ho : o.Down.length ≤ 1048576) (he : endsB n fr to = true) : M_impl_Outage_connection o n fr to = some (conP n o fun l => qB fr to (labG n l)) := by
  unfold M_impl_Outage_connection
  rw [p_chance n o (by have := netOk_b h; omega) ho _ (fun l => qB fr to (labG n l)) fun l hl => p_conn_c1 n h fr to he l hl]
  rfl
end Vs

namespace Vs
open Go
def giP (n : TNetwork) (o : TOutage) (fr to g : Int) : Int × Bool :=
  cond (outOk n o && endsB n fr to && wi g 0 (IntKind.wrap .i64 ((o.Down.length : Int) - 1)))
    (IntKind.wrap .i64 (conP n ⟨o.Unit, o.Down.set g.toNat 0⟩ (fun l => qB fr to (labG n l)) - conP n ⟨o.Unit, o.Down.set g.toNat o.Unit⟩ (fun l => qB fr to (labG n l))), true) (0, false)
theorem gi_rng {o : TOutage} {g : Int} (ho : o.Down.length ≤ 1048576) (h : wi g 0 (IntKind.wrap .i64 ((o.Down.length : Int) - 1)) = true) : 0 ≤ g ∧ g < o.Down.length := by
  rw [w64_eq (by omega) (by omega)] at h
  unfold wi at h
  simp only [Bool.and_eq_true, decide_eq_true_eq] at h
  omega
theorem p_impl_GroupImportance (n : TNetwork) (o : TOutage) (fr to g : Int) (hz : z_Network n ≤ 1048576) (ho : z_Outage o ≤ 1048576) : M_impl_GroupImportance n o fr to g = some (giP n o fr to g) := by
  have ho' : o.Down.length ≤ 1048576 := ho
  unfold M_impl_GroupImportance giP
  simp only [p_isConnection n o fr to hz ho', p_within, Option.bind_some]
  rcases bt (outOk n o && endsB n fr to) with e | e
  · have e' := e
    simp only [Bool.and_eq_true] at e'
    have hn : netOk n = true := by
      have := e'.1
      unfold outOk at this
      simp only [Bool.and_eq_true] at this
      exact this.1.1.1
    rw [e]
    rcases bt (wi g 0 (IntKind.wrap .i64 ((o.Down.length : Int) - 1))) with e2 | e2
    · obtain ⟨g1, g2⟩ := gi_rng ho' e2
      have hget : o.Down[Int.toNat g]? = some (o.Down[Int.toNat g]'(by omega)) := List.getElem?_eq_getElem (by omega)
      rw [e2]
      simp only [Bool.not_true, cond_false, cond_true, Option.bind_some, Bool.and_self, M_impl_copyInts, grd_t (show o.Down.length * 8 ≤ 140737488355328 by omega), grd_t (show 0 ≤ g ∧ g < (o.Down.length : Int) from ⟨g1, g2⟩), hget, bnd,
        p_connection n ⟨o.Unit, o.Down.set g.toNat 0⟩ fr to hn (by simpa using ho') e'.2, p_connection n ⟨o.Unit, o.Down.set g.toNat o.Unit⟩ fr to hn (by simpa using ho') e'.2]
    · rw [e2]; rfl
  · rw [e]; rfl
theorem p_l16With (o : TOutage) (g v : Int) (ho : o.Down.length ≤ 1048576) (h : 0 ≤ g ∧ g < o.Down.length) : M_spec_l16With o g v = some ⟨o.Unit, o.Down.set g.toNat v⟩ := by
  unfold M_spec_l16With M_spec_l1Own
  have hget : o.Down[Int.toNat g]? = some (o.Down[Int.toNat g]'(by omega)) := List.getElem?_eq_getElem (by omega)
  simp only [Option.bind_some, grd_t (show o.Down.length * 8 ≤ 140737488355328 by omega), grd_t (show 0 ≤ g ∧ g < (o.Down.length : Int) from h), hget, bnd]
theorem p_spec_GroupImportance (n : TNetwork) (o : TOutage) (fr to g : Int) (hz : z_Network n ≤ 1048576) (ho : z_Outage o ≤ 1048576) : M_spec_GroupImportance n o fr to g = some (giP n o fr to g) := by
  have ho' : o.Down.length ≤ 1048576 := ho
  unfold M_spec_GroupImportance giP
  simp only [p_spec_Outage n o hz ho', p_l6Ends n fr to hz, p_l1In, Option.bind_some]
  rcases bt (outOk n o) with e | e
  · have hn : netOk n = true := by
      unfold outOk at e
      simp only [Bool.and_eq_true] at e
      exact e.1.1.1
    rw [e, hn]
    rcases bt (endsB n fr to) with e2 | e2
    · rw [e2]
      rcases bt (wi g 0 (IntKind.wrap .i64 ((o.Down.length : Int) - 1))) with e3 | e3
      · obtain ⟨g1, g2⟩ := gi_rng ho' e3
        rw [e3]
        simp only [Bool.not_true, cond_false, cond_true, Option.bind_some, Bool.and_self, p_l16With o g _ ho' ⟨g1, g2⟩,
          p_l16Connected n ⟨o.Unit, o.Down.set g.toNat 0⟩ fr to hn (by simpa using ho') (.inr (ends_rng e2)), p_l16Connected n ⟨o.Unit, o.Down.set g.toNat o.Unit⟩ fr to hn (by simpa using ho') (.inr (ends_rng e2))]
      · rw [e3]; rfl
    · rw [e2]; rfl
  · rw [e]; rfl
end Vs

namespace Vs
open Go
theorem p_FnExactGroupImportance (x1 : TNetwork) (x2 : TOutage) (x3 : Int) (x4 : Int) (x5 : Int) (o1 : ok_Network x1) (o2 : ok_Outage x2) : M_laws_FnExactGroupImportance x1 x2 x3 x4 x5 = some true := by
  unfold M_laws_FnExactGroupImportance
  rw [p_szNetwork x1 _ (by omega) (by omega) o1]
  simp only [Option.bind_some]
  by_cases hc1 : (1048576 : Int) - z_Network x1 < 0
  · simp [hc1]
  simp only [hc1, if_false, decide_false, cond_false]
  rw [p_szOutage x2 _ (by omega) (by omega) o2]
  simp only [Option.bind_some]
  by_cases hc2 : (1048576 : Int) - z_Network x1 - z_Outage x2 < 0
  · simp [hc2]
  simp only [hc2, if_false, decide_false, cond_false]
  have z1 : z_Network x1 ≤ 1048576 := by omega
  have z2 : z_Outage x2 ≤ 1048576 := by omega
  simp only [p_spec_GroupImportance x1 x2 x3 x4 x5 z1 z2, p_impl_GroupImportance x1 x2 x3 x4 x5 z1 z2, p_toNetwork x1 z1, p_toOutage x2 z2, p_eqNetwork x1 z1, p_eqOutage x2 z2, Option.bind_some, Bool.not_true, beq_self_eq_true, bnd, bne_self_eq_false, cond_false, cond_true]
end Vs

