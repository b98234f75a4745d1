/-
  Part of the proof that the law FnExactGroomAll returns true at every input; no condition beside the row's own.
-/
import Derived.Test.YtgbifbhfdjdhbaaFe
import Derived.Test.YtgbifbhfdjdhbaaAa
set_option linter.unusedSimpArgs false
set_option linter.unusedVariables false
namespace Vs
open Go
theorem p_toLink (x : TLink) : M_laws_toLink x = some x := by unfold M_laws_toLink; rfl
theorem p_eqLink (x : TLink) : M_laws_eqLink x x = some true := by unfold M_laws_eqLink; simp
theorem p_toTributary (x : TTributary) : M_laws_toTributary x = some x := by unfold M_laws_toTributary; rfl
theorem p_eqTributary (x : TTributary) : M_laws_eqTributary x x = some true := by unfold M_laws_eqTributary; simp
def z_LinkS (xs : (List TLink)) : Nat := xs.length
def ok_LinkS (xs : (List TLink)) : Prop := xs.length ≤ 9223372036854775807
theorem p_szLinkS (xs : (List TLink)) (l : Int) (h1 : 0 ≤ l) (h2 : l ≤ 1048576) (hs : ok_LinkS xs) : M_laws_szLinkS xs l = some (if l - z_LinkS xs < 0 then (-1 : Int) else l - z_LinkS xs) := by
  unfold M_laws_szLinkS
  unfold ok_LinkS at hs
  rw [w64_eq (by omega) (by omega)]
  simp only [cond_ite, decide_eq_true_eq]
  by_cases h : l - (xs.length : Int) < 0
  · rw [if_pos h, if_pos (show l - (z_LinkS xs : Int) < 0 from h)]
  · rw [if_neg h, if_neg (show ¬ l - (z_LinkS xs : Int) < 0 from h)]; rfl
theorem p_toLinkS (xs : (List TLink)) (hl : z_LinkS xs ≤ 1048576) : M_laws_toLinkS xs = some xs := by
  unfold M_laws_toLinkS
  have hlen : xs.length ≤ 1048576 := by unfold z_LinkS at hl; omega
  have key := fun l0 (h0 : l0.length = xs.length) => iter_copy (f := M_laws_toLinkSL1 xs) xs id l0 h0 (fun i l x y hx hy hll => by
    have hlt := (List.getElem?_eq_some_iff.1 hx).1
    have h1 : decide ((i : Int) < xs.length) = true := by simp [hlt]
    have h2 : (0 ≤ (i : Int) ∧ (i : Int) < (l.length : Int)) := by omega
    have hto : M_laws_toLink x = some x := p_toLink x
    simp only [M_laws_toLinkSL1, h1, cond_true, geti_nat, hx, Option.bind_some, grd_t h2, Int.toNat_natCast, hy, hto, bnd, id]
    rw [w64_eq (by omega) (by omega)]; rfl) (fun l => by simp [M_laws_toLinkSL1]) (by omega)
  rw [grd_t (by omega)]
  simp only [Option.bind_some, bnd]
  rw [key _ (by simp)]; simp
theorem p_eqLinkS (xs : (List TLink)) (hl : z_LinkS xs ≤ 1048576) : M_laws_eqLinkS xs xs = some true := by
  unfold M_laws_eqLinkS
  have hlen : xs.length ≤ 1048576 := by unfold z_LinkS at hl; omega
  rw [eq_loop (f := M_laws_eqLinkSL1 xs xs) xs (fun i x hx => by
    have hlt := (List.getElem?_eq_some_iff.1 hx).1
    have h1 : decide ((i : Int) < xs.length) = true := by simp [hlt]
    have he : M_laws_eqLink x x = some true := p_eqLink x
    simp only [M_laws_eqLinkSL1, h1, cond_true, geti_nat, hx, Option.bind_some, he, Bool.not_true, cond_false]
    rw [w64_eq (by omega) (by omega)]; rfl) (by simp [M_laws_eqLinkSL1]) (by omega)]
  simp
def z_TributaryS (xs : (List TTributary)) : Nat := xs.length
def ok_TributaryS (xs : (List TTributary)) : Prop := xs.length ≤ 9223372036854775807
theorem p_szTributaryS (xs : (List TTributary)) (l : Int) (h1 : 0 ≤ l) (h2 : l ≤ 1048576) (hs : ok_TributaryS xs) : M_laws_szTributaryS xs l = some (if l - z_TributaryS xs < 0 then (-1 : Int) else l - z_TributaryS xs) := by
  unfold M_laws_szTributaryS
  unfold ok_TributaryS at hs
  rw [w64_eq (by omega) (by omega)]
  simp only [cond_ite, decide_eq_true_eq]
  by_cases h : l - (xs.length : Int) < 0
  · rw [if_pos h, if_pos (show l - (z_TributaryS xs : Int) < 0 from h)]
  · rw [if_neg h, if_neg (show ¬ l - (z_TributaryS xs : Int) < 0 from h)]; rfl
theorem p_toTributaryS (xs : (List TTributary)) (hl : z_TributaryS xs ≤ 1048576) : M_laws_toTributaryS xs = some xs := by
  unfold M_laws_toTributaryS
  have hlen : xs.length ≤ 1048576 := by unfold z_TributaryS at hl; omega
  have key := fun l0 (h0 : l0.length = xs.length) => iter_copy (f := M_laws_toTributarySL1 xs) xs id l0 h0 (fun i l x y hx hy hll => by
    have hlt := (List.getElem?_eq_some_iff.1 hx).1
    have h1 : decide ((i : Int) < xs.length) = true := by simp [hlt]
    have h2 : (0 ≤ (i : Int) ∧ (i : Int) < (l.length : Int)) := by omega
    have hto : M_laws_toTributary x = some x := p_toTributary x
    simp only [M_laws_toTributarySL1, h1, cond_true, geti_nat, hx, Option.bind_some, grd_t h2, Int.toNat_natCast, hy, hto, bnd, id]
    rw [w64_eq (by omega) (by omega)]; rfl) (fun l => by simp [M_laws_toTributarySL1]) (by omega)
  rw [grd_t (by omega)]
  simp only [Option.bind_some, bnd]
  rw [key _ (by simp)]; simp
theorem p_eqTributaryS (xs : (List TTributary)) (hl : z_TributaryS xs ≤ 1048576) : M_laws_eqTributaryS xs xs = some true := by
  unfold M_laws_eqTributaryS
  have hlen : xs.length ≤ 1048576 := by unfold z_TributaryS at hl; omega
  rw [eq_loop (f := M_laws_eqTributarySL1 xs xs) xs (fun i x hx => by
    have hlt := (List.getElem?_eq_some_iff.1 hx).1
    have h1 : decide ((i : Int) < xs.length) = true := by simp [hlt]
    have he : M_laws_eqTributary x x = some true := p_eqTributary x
    simp only [M_laws_eqTributarySL1, h1, cond_true, geti_nat, hx, Option.bind_some, he, Bool.not_true, cond_false]
    rw [w64_eq (by omega) (by omega)]; rfl) (by simp [M_laws_eqTributarySL1]) (by omega)]
  simp
def z_IntS (xs : (List Int)) : Nat := xs.length
def ok_IntS (xs : (List Int)) : Prop := xs.length ≤ 9223372036854775807
theorem p_eqIntS (xs : (List Int)) (hl : z_IntS xs ≤ 1048576) : M_laws_eqIntS xs xs = some true := by
  unfold M_laws_eqIntS
  have hlen : xs.length ≤ 1048576 := by unfold z_IntS at hl; omega
  rw [eq_loop (f := M_laws_eqIntSL1 xs xs) xs (fun i x hx => by
    have hlt := (List.getElem?_eq_some_iff.1 hx).1
    have h1 : decide ((i : Int) < xs.length) = true := by simp [hlt]
    simp only [M_laws_eqIntSL1, h1, cond_true, geti_nat, hx, Option.bind_some, bne_self_eq_false, cond_false]
    rw [w64_eq (by omega) (by omega)]; rfl) (by simp [M_laws_eqIntSL1]) (by omega)]
  simp
def z_IntSS (xs : (List (List Int))) : Nat := xs.length + (xs.map fun x => z_IntS x).sum
def ok_IntSS (xs : (List (List Int))) : Prop := xs.length ≤ 9223372036854775807 ∧ ∀ x ∈ xs, ok_IntS x
theorem p_eqIntSS (xs : (List (List Int))) (hl : z_IntSS xs ≤ 1048576) : M_laws_eqIntSS xs xs = some true := by
  unfold M_laws_eqIntSS
  have hlen : xs.length ≤ 1048576 := by unfold z_IntSS at hl; omega
  rw [eq_loop (f := M_laws_eqIntSSL1 xs xs) xs (fun i x hx => by
    have hlt := (List.getElem?_eq_some_iff.1 hx).1
    have h1 : decide ((i : Int) < xs.length) = true := by simp [hlt]
    have he : M_laws_eqIntS x x = some true := p_eqIntS x (by have := sum_ge (fun x => z_IntS x) hx; unfold z_IntSS at hl; omega)
    simp only [M_laws_eqIntSSL1, h1, cond_true, geti_nat, hx, Option.bind_some, he, Bool.not_true, cond_false]
    rw [w64_eq (by omega) (by omega)]; rfl) (by simp [M_laws_eqIntSSL1]) (by omega)]
  simp
def mk_LinkS (k : Int) (_ : TLink) : Int × TLink := (k + 3, ⟨k, k + 1, k + 2⟩)
def w_LinkS (_ : TLink) : Nat := 3
theorem hw_LinkS (k : Int) (x : TLink) : (mk_LinkS k x).1 = k + (w_LinkS x : Int) := rfl
theorem w_le_LinkS (xs : (List TLink)) : (xs.map w_LinkS).sum ≤ 16 * z_LinkS xs := by
  unfold z_LinkS
  induction xs with
  | nil => simp
  | cons x xs ih => simp only [List.map_cons, List.sum_cons, List.length_cons, w_LinkS] at ih ⊢; omega
theorem p_markLinkS (xs : (List TLink)) (k0 : Int) (hk : 0 ≤ k0) (hK : k0 + ((xs.map w_LinkS).sum : Nat) ≤ 1000000000000) (hl : z_LinkS xs ≤ 1048576) : M_laws_markLinkSM1 k0 xs = some (markL mk_LinkS k0 xs) := by
  unfold M_laws_markLinkSM1
  have hlen : xs.length ≤ 1048576 := by unfold z_LinkS at hl; omega
  rw [mark_loop (f := M_laws_markLinkSM1L1) xs mk_LinkS w_LinkS hw_LinkS 1000000000000 (fun i x k l hll hi hx hli h0 hK2 => by
    have hw1 : w_LinkS x = w_LinkS x := rfl
    have h1 : decide ((i : Int) < (l.length : Int)) = true := decide_eq_true (by omega)
    have h2 : 0 ≤ (i : Int) ∧ (i : Int) < (l.length : Int) := by omega
    simp only [M_laws_markLinkSM1L1, h1, cond_true, grd_t h2, Option.bind_some, Int.toNat_natCast, hli, bnd, List.getElem?_set_self (show i < l.length by omega), List.set_set]
    rw [w64_eq (n := k + 1) (by unfold w_LinkS at hK2; omega) (by unfold w_LinkS at hK2; omega), w64_eq (n := k + 1 + 1) (by unfold w_LinkS at hK2; omega) (by unfold w_LinkS at hK2; omega), w64_eq (n := k + 1 + 1 + 1) (by unfold w_LinkS at hK2; omega) (by unfold w_LinkS at hK2; omega), w64_eq (n := (i : Int) + 1) (by unfold w_LinkS at hK2; omega) (by unfold w_LinkS at hK2; omega)]
    simp only [Int.add_assoc, Int.reduceAdd, mk_LinkS]
    rfl) (fun k l hll => by simp [M_laws_markLinkSM1L1, hll]) k0 hk hK (by omega)]
  rfl
def mk_TributaryS (k : Int) (_ : TTributary) : Int × TTributary := (k + 3, ⟨k, k + 1, k + 2⟩)
def w_TributaryS (_ : TTributary) : Nat := 3
theorem hw_TributaryS (k : Int) (x : TTributary) : (mk_TributaryS k x).1 = k + (w_TributaryS x : Int) := rfl
theorem w_le_TributaryS (xs : (List TTributary)) : (xs.map w_TributaryS).sum ≤ 16 * z_TributaryS xs := by
  unfold z_TributaryS
  induction xs with
  | nil => simp
  | cons x xs ih => simp only [List.map_cons, List.sum_cons, List.length_cons, w_TributaryS] at ih ⊢; omega
theorem p_markTributaryS (xs : (List TTributary)) (k0 : Int) (hk : 0 ≤ k0) (hK : k0 + ((xs.map w_TributaryS).sum : Nat) ≤ 1000000000000) (hl : z_TributaryS xs ≤ 1048576) : M_laws_markTributarySM1 k0 xs = some (markL mk_TributaryS k0 xs) := by
  unfold M_laws_markTributarySM1
  have hlen : xs.length ≤ 1048576 := by unfold z_TributaryS at hl; omega
  rw [mark_loop (f := M_laws_markTributarySM1L1) xs mk_TributaryS w_TributaryS hw_TributaryS 1000000000000 (fun i x k l hll hi hx hli h0 hK2 => by
    have hw1 : w_TributaryS x = w_TributaryS x := rfl
    have h1 : decide ((i : Int) < (l.length : Int)) = true := decide_eq_true (by omega)
    have h2 : 0 ≤ (i : Int) ∧ (i : Int) < (l.length : Int) := by omega
    simp only [M_laws_markTributarySM1L1, h1, cond_true, grd_t h2, Option.bind_some, Int.toNat_natCast, hli, bnd, List.getElem?_set_self (show i < l.length by omega), List.set_set]
    rw [w64_eq (n := k + 1) (by unfold w_TributaryS at hK2; omega) (by unfold w_TributaryS at hK2; omega), w64_eq (n := k + 1 + 1) (by unfold w_TributaryS at hK2; omega) (by unfold w_TributaryS at hK2; omega), w64_eq (n := k + 1 + 1 + 1) (by unfold w_TributaryS at hK2; omega) (by unfold w_TributaryS at hK2; omega), w64_eq (n := (i : Int) + 1) (by unfold w_TributaryS at hK2; omega) (by unfold w_TributaryS at hK2; omega)]
    simp only [Int.add_assoc, Int.reduceAdd, mk_TributaryS]
    rfl) (fun k l hll => by simp [M_laws_markTributarySM1L1, hll]) k0 hk hK (by omega)]
  rfl
def mk_IntS (k : Int) (_ : Int) : Int × Int := (k + 1, k)
def w_IntS (_ : Int) : Nat := 1
theorem hw_IntS (k : Int) (x : Int) : (mk_IntS k x).1 = k + (w_IntS x : Int) := rfl
theorem w_le_IntS (xs : (List Int)) : (xs.map w_IntS).sum ≤ 16 * z_IntS xs := by
  unfold z_IntS
  induction xs with
  | nil => simp
  | cons x xs ih => simp only [List.map_cons, List.sum_cons, List.length_cons, w_IntS] at ih ⊢; omega
theorem p_markIntS (xs : (List Int)) (k0 : Int) (hk : 0 ≤ k0) (hK : k0 + ((xs.map w_IntS).sum : Nat) ≤ 1000000000000) (hl : z_IntS xs ≤ 1048576) : M_laws_markIntSM1 k0 xs = some (markL mk_IntS k0 xs) := by
  unfold M_laws_markIntSM1
  have hlen : xs.length ≤ 1048576 := by unfold z_IntS at hl; omega
  rw [mark_loop (f := M_laws_markIntSM1L1) xs mk_IntS w_IntS hw_IntS 1000000000000 (fun i x k l hll hi hx hli h0 hK2 => by
    have hw1 : w_IntS x = w_IntS x := rfl
    have h1 : decide ((i : Int) < (l.length : Int)) = true := decide_eq_true (by omega)
    have h2 : 0 ≤ (i : Int) ∧ (i : Int) < (l.length : Int) := by omega
    simp only [M_laws_markIntSM1L1, h1, cond_true, grd_t h2, Option.bind_some, Int.toNat_natCast, hli, bnd]
    rw [w64_eq (n := k + 1) (by unfold w_IntS at hK2; omega) (by unfold w_IntS at hK2; omega), w64_eq (n := (i : Int) + 1) (by unfold w_IntS at hK2; omega) (by unfold w_IntS at hK2; omega)]
    rfl) (fun k l hll => by simp [M_laws_markIntSM1L1, hll]) k0 hk hK (by omega)]
  rfl
theorem p_heldIntS (xs : (List Int)) (k0 : Int) (hk : 0 ≤ k0) (hK : k0 + ((xs.map w_IntS).sum : Nat) ≤ 1000000000000) (hl : z_IntS xs ≤ 1048576) : M_laws_heldIntS (markL mk_IntS k0 xs).2 k0 = some (markL mk_IntS k0 xs).1 := by
  unfold M_laws_heldIntS
  have hlen : xs.length ≤ 1048576 := by unfold z_IntS at hl; omega
  rw [held_loop (f := M_laws_heldIntSL1 (markL mk_IntS k0 xs).2) xs mk_IntS w_IntS hw_IntS 1000000000000 k0 (fun i x k hx hm h0 hK2 => by
    have hi := (List.getElem?_eq_some_iff.1 hx).1
    have h1 : decide ((i : Int) < ((markL mk_IntS k0 xs).2.length : Int)) = true := decide_eq_true (by rw [markL_len]; omega)
    simp only [M_laws_heldIntSL1, h1, cond_true, geti_nat, hm, Option.bind_some, mk_IntS, bne_self_eq_false, cond_false]
    rw [w64_eq (n := k + 1) (by unfold w_IntS at hK2; omega) (by unfold w_IntS at hK2; omega), w64_eq (n := (i : Int) + 1) (by unfold w_IntS at hK2; omega) (by unfold w_IntS at hK2; omega)]
    rfl) (fun k => by simp [M_laws_heldIntSL1, markL_len]) hk hK (by omega)]
  rfl
def mk_IntSS (k : Int) (x : (List Int)) : Int × (List Int) := markL mk_IntS k x
def w_IntSS (x : (List Int)) : Nat := (x.map w_IntS).sum
theorem hw_IntSS (k : Int) (x : (List Int)) : (mk_IntSS k x).1 = k + (w_IntSS x : Int) := markL_fst mk_IntS w_IntS hw_IntS x k
theorem w_le_IntSS (xs : (List (List Int))) : (xs.map w_IntSS).sum ≤ 16 * z_IntSS xs := by
  unfold z_IntSS
  induction xs with
  | nil => simp
  | cons x xs ih =>
    have := w_le_IntS x
    simp only [List.map_cons, List.sum_cons, List.length_cons, w_IntSS] at ih ⊢
    omega
theorem p_markIntSS (xs : (List (List Int))) (k0 : Int) (hk : 0 ≤ k0) (hK : k0 + ((xs.map w_IntSS).sum : Nat) ≤ 1000000000000) (hl : z_IntSS xs ≤ 1048576) : M_laws_markIntSSM1 k0 xs = some (markL mk_IntSS k0 xs) := by
  unfold M_laws_markIntSSM1
  have hlen : xs.length ≤ 1048576 := by unfold z_IntSS at hl; omega
  rw [mark_loop (f := M_laws_markIntSSM1L1) xs mk_IntSS w_IntSS hw_IntSS 1000000000000 (fun i x k l hll hi hx hli h0 hK2 => by
    have hw1 : w_IntSS x = w_IntSS x := rfl
    have h1 : decide ((i : Int) < (l.length : Int)) = true := decide_eq_true (by omega)
    have h2 : 0 ≤ (i : Int) ∧ (i : Int) < (l.length : Int) := by omega
    have hb : z_IntS x ≤ 1048576 := by have := sum_ge (fun x => z_IntS x) hx; unfold z_IntSS at hl; omega
    simp only [M_laws_markIntSSM1L1, h1, cond_true, grd_t h2, Option.bind_some, Int.toNat_natCast, hli, bnd, p_markIntS x k h0 (by unfold w_IntSS at hK2; omega) hb]
    rw [w64_eq (n := (i : Int) + 1) (by omega) (by omega)]
    rfl) (fun k l hll => by simp [M_laws_markIntSSM1L1, hll]) k0 hk hK (by omega)]
  rfl
theorem p_heldIntSS (xs : (List (List Int))) (k0 : Int) (hk : 0 ≤ k0) (hK : k0 + ((xs.map w_IntSS).sum : Nat) ≤ 1000000000000) (hl : z_IntSS xs ≤ 1048576) : M_laws_heldIntSS (markL mk_IntSS k0 xs).2 k0 = some (markL mk_IntSS k0 xs).1 := by
  unfold M_laws_heldIntSS
  have hlen : xs.length ≤ 1048576 := by unfold z_IntSS at hl; omega
  rw [held_loop (f := M_laws_heldIntSSL1 (markL mk_IntSS k0 xs).2) xs mk_IntSS w_IntSS hw_IntSS 1000000000000 k0 (fun i x k hx hm h0 hK2 => by
    have hi := (List.getElem?_eq_some_iff.1 hx).1
    have h1 : decide ((i : Int) < ((markL mk_IntSS k0 xs).2.length : Int)) = true := decide_eq_true (by rw [markL_len]; omega)
    have hb : z_IntS x ≤ 1048576 := by have := sum_ge (fun x => z_IntS x) hx; unfold z_IntSS at hl; omega
    have hw2 : (mk_IntSS k x).1 = k + (w_IntSS x : Int) := hw_IntSS k x
    have hn : decide ((mk_IntSS k x).1 < 0) = false := decide_eq_false (by omega)
    have hh : M_laws_heldIntS (mk_IntSS k x).2 k = some (mk_IntSS k x).1 := p_heldIntS x k h0 (by unfold w_IntSS at hK2; omega) hb
    simp only [M_laws_heldIntSSL1, h1, cond_true, geti_nat, hm, Option.bind_some, hh, hn, cond_false]
    rw [w64_eq (n := (i : Int) + 1) (by omega) (by omega)]
    rfl) (fun k => by simp [M_laws_heldIntSSL1, markL_len]) hk hK (by omega)]
  rfl
end Vs

namespace Vs
open Go
theorem p_IndexFunc_Tributary (xs : List TTributary) (f : TTributary → Option Bool) (p : TTributary → Bool) (hf : ∀ x, f x = some (p x)) (hl : xs.length < 2 ^ 62) : ∃ r, M_slices_IndexFunc_Tributary xs f = some r ∧ (decide (0 ≤ r) = xs.any p) := by
  obtain ⟨b, key, hb⟩ := iter_index (f := M_slices_IndexFunc_TributaryL1 xs f) xs p (fun i x hx => by
    have hlt := (List.getElem?_eq_some_iff.1 hx).1
    have h1 : decide ((i : Int) < xs.length) = true := by simp [hlt]
    simp only [M_slices_IndexFunc_TributaryL1, h1, cond_true, geti_nat, hx, hf, Option.bind_some]
    rw [w64_eq (by omega) (by omega)]
    rcases bt (p x) with e | e <;> simp [e]) (by simp [M_slices_IndexFunc_TributaryL1]) (by omega)
  unfold M_slices_IndexFunc_Tributary
  rw [key]
  rcases hb with ⟨rfl, h⟩ | ⟨k, rfl, h⟩
  · exact ⟨-1, rfl, by rw [h]; rfl⟩
  · exact ⟨k, rfl, by rw [h]; simp⟩
theorem p_ContainsFunc_Tributary (xs : List TTributary) (f : TTributary → Option Bool) (p : TTributary → Bool) (hf : ∀ x, f x = some (p x)) (hl : xs.length < 2 ^ 62) : M_slices_ContainsFunc_Tributary xs f = some (xs.any p) := by
  unfold M_slices_ContainsFunc_Tributary
  obtain ⟨r, h1, h2⟩ := p_IndexFunc_Tributary xs f p hf hl
  simp [h1, h2]
theorem p_IndexFunc_Link (xs : List TLink) (f : TLink → Option Bool) (p : TLink → Bool) (hf : ∀ x, f x = some (p x)) (hl : xs.length < 2 ^ 62) : ∃ r, M_slices_IndexFunc_Link xs f = some r ∧ (decide (0 ≤ r) = xs.any p) := by
  obtain ⟨b, key, hb⟩ := iter_index (f := M_slices_IndexFunc_LinkL1 xs f) xs p (fun i x hx => by
    have hlt := (List.getElem?_eq_some_iff.1 hx).1
    have h1 : decide ((i : Int) < xs.length) = true := by simp [hlt]
    simp only [M_slices_IndexFunc_LinkL1, h1, cond_true, geti_nat, hx, hf, Option.bind_some]
    rw [w64_eq (by omega) (by omega)]
    rcases bt (p x) with e | e <;> simp [e]) (by simp [M_slices_IndexFunc_LinkL1]) (by omega)
  unfold M_slices_IndexFunc_Link
  rw [key]
  rcases hb with ⟨rfl, h⟩ | ⟨k, rfl, h⟩
  · exact ⟨-1, rfl, by rw [h]; rfl⟩
  · exact ⟨k, rfl, by rw [h]; simp⟩
theorem p_ContainsFunc_Link (xs : List TLink) (f : TLink → Option Bool) (p : TLink → Bool) (hf : ∀ x, f x = some (p x)) (hl : xs.length < 2 ^ 62) : M_slices_ContainsFunc_Link xs f = some (xs.any p) := by
  unfold M_slices_ContainsFunc_Link
  obtain ⟨r, h1, h2⟩ := p_IndexFunc_Link xs f p hf hl
  simp [h1, h2]
end Vs

namespace Vs
open Go
def wi (x a b : Int) : Bool := decide (a ≤ x) && decide (x ≤ b)
theorem p_within (x a b : Int) : M_impl_within x a b = some (wi x a b) := by
  unfold M_impl_within wi; by_cases h : a ≤ x <;> simp [h]
theorem p_l1In (x a b : Int) : M_spec_l1In x a b = some (wi x a b) := by
  unfold M_spec_l1In wi; by_cases h : a ≤ x <;> simp [h]
def ends (a b n : Int) : Bool := wi a 0 (IntKind.wrap .i64 (n - 1)) && wi b 0 (IntKind.wrap .i64 (n - 1)) && a != b
theorem p_areEnds (a b n : Int) : M_impl_areEnds a b n = some (ends a b n) := by
  unfold M_impl_areEnds ends; simp only [p_within, Option.bind_some]
  cases wi a 0 (IntKind.wrap .i64 (n - 1)) <;> cases wi b 0 (IntKind.wrap .i64 (n - 1)) <;> simp
theorem p_l18Pair (a b n : Int) : M_spec_l18Pair a b n = some (ends a b n) := by
  unfold M_spec_l18Pair ends; simp only [p_l1In, Option.bind_some]
  cases wi a 0 (IntKind.wrap .i64 (n - 1)) <;> cases wi b 0 (IntKind.wrap .i64 (n - 1)) <;> simp
def trOk (n : Int) (t : TTributary) : Bool := ends t.From t.To n && wi t.Rate 1 1000
theorem p_IsValidTributaries_c1 (t : TTributary) (n : Int) : M_impl_IsValidTributaries_c1 t n = some (!trOk n t) := by
  unfold M_impl_IsValidTributaries_c1 trOk; simp only [p_areEnds, p_within, Option.bind_some]
  cases ends t.From t.To n <;> simp
def tribs (list : List TTributary) (n : Int) : Bool := wi n 2 8 && decide (list.length ≤ 12) && !list.any fun t => !trOk n t
theorem p_impl_IsValidTributaries (xs : List TTributary) (n : Int) (hl : xs.length < 2 ^ 62) : M_impl_IsValidTributaries xs n = some (tribs xs n) := by
  unfold M_impl_IsValidTributaries tribs
  simp only [p_within, Option.bind_some, p_ContainsFunc_Tributary xs (fun x0 => M_impl_IsValidTributaries_c1 x0 n) (fun t => !trOk n t) (fun x => p_IsValidTributaries_c1 x n) hl]
  have : decide ((xs.length : Int) ≤ 12) = decide (xs.length ≤ 12) := by simp; omega
  rw [this]
  cases wi n 2 8 <;> cases decide (xs.length ≤ 12) <;> simp
theorem bounded_all {α : Type} {f : Int → Option (Int ⊕ (Unit ⊕ Bool))} (xs : List α) (p : α → Bool)
    (step : ∀ (i : Nat) x, xs[i]? = some x → f i = some (if i ≤ 12 then (if !p x then .inr (.inr false) else .inl ((i + 1 : Nat) : Int)) else .inr (.inl ())))
    (h2 : f xs.length = some (.inr (.inl ()))) (hl : xs.length < 18446744073709551615) :
    ∃ b, iter f N0 0 = some b ∧ (b = .inr false ∧ (xs.any fun t => !p t) = true ∨ b = .inl () ∧ (xs.length ≤ 13 → (xs.any fun t => !p t) = false)) := by
  have key : iter f N0 0 = some (walkL (fun i x (_ : Unit) => if i ≤ 12 then (if !p x then Sum.inr (Sum.inr false) else .inl ()) else .inr (.inl ())) (fun _ => Sum.inl ()) 0 xs ()) := by
    refine iter_list xs (fun i (_ : Unit) => (i : Int)) _ _ (fun _ _ => True) (fun i a x hx _ => ?_) (fun a _ => h2) () trivial hl
    rw [step i x hx]
    by_cases h2 : i ≤ 12
    · rcases bt (p x) with e | e
      · exact .inl ⟨(), by simp [h2, e], trivial, by simp [h2, e]⟩
      · exact .inr ⟨_, by simp [h2, e]; rfl, by simp [h2, e]⟩
    · exact .inr ⟨_, by simp [h2]; rfl, by simp [h2]⟩
  refine ⟨_, key, ?_⟩
  have gen : ∀ (ys : List α) (i : Nat), walkL (fun i x (_ : Unit) => if i ≤ 12 then (if !p x then Sum.inr (Sum.inr false) else .inl ()) else .inr (.inl ())) (fun _ => (Sum.inl () : Unit ⊕ Bool)) i ys () = .inr false ∧ (ys.any fun t => !p t) = true ∨
      walkL (fun i x (_ : Unit) => if i ≤ 12 then (if !p x then Sum.inr (Sum.inr false) else .inl ()) else .inr (.inl ())) (fun _ => (Sum.inl () : Unit ⊕ Bool)) i ys () = .inl () ∧ (i + ys.length ≤ 13 → (ys.any fun t => !p t) = false) := by
    intro ys
    induction ys with
    | nil => intro i; right; simp [walkL]
    | cons y ys ih =>
      intro i
      simp only [walkL, List.any_cons, List.length_cons]
      by_cases h2 : i ≤ 12
      · rcases bt (p y) with h | h
        · simp only [h2, h, if_true, Bool.not_true, Bool.false_eq_true, if_false, Bool.false_or]
          rcases ih (i + 1) with ⟨a, b⟩ | ⟨a, b⟩
          · exact .inl ⟨a, b⟩
          · exact .inr ⟨a, fun h => b (by omega)⟩
        · left; simp [h2, h]
      · right; simp only [h2, if_false]; exact ⟨trivial, fun h => by omega⟩
  rcases gen xs 0 with h | ⟨h, h'⟩
  · exact .inl h
  · exact .inr ⟨h, fun e => h' (by omega)⟩
theorem p_spec_IsValidTributaries (xs : List TTributary) (n : Int) (hl : xs.length < 2 ^ 62) : M_spec_l18Good xs n = some (tribs xs n) := by
  unfold M_spec_l18Good
  obtain ⟨b, key, hb⟩ := bounded_all (f := M_spec_l18GoodL1 xs n) xs (trOk n) (fun i x hx => by
    have hlt := (List.getElem?_eq_some_iff.1 hx).1
    simp only [M_spec_l18GoodL1, geti_nat, hx, Option.bind_some, p_l18Pair, p_l1In, trOk]
    have h1 : decide ((i : Int) < xs.length) = true := by simp [hlt]
    rw [h1]
    by_cases h2 : i ≤ 12
    · have : decide ((i : Int) ≤ 12) = true := by simp; omega
      simp only [cond_true, Option.bind_some, this, h2, if_true]
      rw [w64_eq (by omega) (by omega)]
      rcases bt (ends x.From x.To n) with e1 | e1 <;> rcases bt (wi x.Rate 1 1000) with e2 | e2 <;> simp [e1, e2]
    · have : decide ((i : Int) ≤ 12) = false := by simp; omega
      simp [this, h2]) (by simp [M_spec_l18GoodL1]) (by omega)
  rw [key]
  have hd : decide ((xs.length : Int) ≤ 12) = decide (xs.length ≤ 12) := by simp; omega
  rcases hb with ⟨rfl, h2⟩ | ⟨rfl, h2⟩
  · simp [tribs, h2]
  · simp only [Option.bind_some, p_l1In, tribs, hd]
    by_cases h3 : xs.length ≤ 12
    · rw [h2 (by omega)]; cases wi n 2 8 <;> simp [h3]
    · cases wi n 2 8 <;> simp [h3]
end Vs

namespace Vs
open Go
def lkOk (n : Int) (l : TLink) : Bool := ends l.A l.B n && wi l.Capacity 0 10000
theorem p_areLinks_c1 (l : TLink) (n : Int) : M_impl_areLinks_c1 l n = some (!lkOk n l) := by
  unfold M_impl_areLinks_c1 lkOk; simp only [p_areEnds, p_within, Option.bind_some]
  cases ends l.A l.B n <;> simp
def lks (list : List TLink) (n : Int) : Bool := wi n 2 8 && decide (list.length ≤ 12) && !list.any fun t => !lkOk n t
theorem p_areLinks (xs : List TLink) (n : Int) (hl : xs.length < 2 ^ 62) : M_impl_areLinks xs n = some (lks xs n) := by
  unfold M_impl_areLinks lks
  simp only [p_within, Option.bind_some, p_ContainsFunc_Link xs (fun x0 => M_impl_areLinks_c1 x0 n) (fun t => !lkOk n t) (fun x => p_areLinks_c1 x n) hl]
  have : decide ((xs.length : Int) ≤ 12) = decide (xs.length ≤ 12) := by simp; omega
  rw [this]
  cases wi n 2 8 <;> cases decide (xs.length ≤ 12) <;> simp
theorem p_l18Links (xs : List TLink) (n : Int) (hl : xs.length < 2 ^ 62) : M_spec_l18Links xs n = some (lks xs n) := by
  unfold M_spec_l18Links
  obtain ⟨b, key, hb⟩ := bounded_all (f := M_spec_l18LinksL1 xs n) xs (lkOk n) (fun i x hx => by
    have hlt := (List.getElem?_eq_some_iff.1 hx).1
    simp only [M_spec_l18LinksL1, geti_nat, hx, Option.bind_some, p_l18Pair, p_l1In, lkOk]
    have h1 : decide ((i : Int) < xs.length) = true := by simp [hlt]
    rw [h1]
    by_cases h2 : i ≤ 12
    · have : decide ((i : Int) ≤ 12) = true := by simp; omega
      simp only [cond_true, Option.bind_some, this, h2, if_true]
      rw [w64_eq (by omega) (by omega)]
      rcases bt (ends x.A x.B n) with e1 | e1 <;> rcases bt (wi x.Capacity 0 10000) with e2 | e2 <;> simp [e1, e2]
    · have : decide ((i : Int) ≤ 12) = false := by simp; omega
      simp [this, h2]) (by simp [M_spec_l18LinksL1]) (by omega)
  rw [key]
  have hd : decide ((xs.length : Int) ≤ 12) = decide (xs.length ≤ 12) := by simp; omega
  rcases hb with ⟨rfl, h2⟩ | ⟨rfl, h2⟩
  · simp [lks, h2]
  · simp only [Option.bind_some, p_l1In, lks, hd]
    by_cases h3 : xs.length ≤ 12
    · rw [h2 (by omega)]; cases wi n 2 8 <;> simp [h3]
    · cases wi n 2 8 <;> simp [h3]

/-! ### the search -/
def firstL (f : Nat → TLink → Option (List Int)) : Nat → List TLink → Option (List Int)
  | _, [] => none
  | i, x :: xs => match f i x with
    | some r => some r
    | none => firstL f (i + 1) xs
theorem firstL_congr {f g : Nat → TLink → Option (List Int)} : ∀ (xs : List TLink) (i : Nat), (∀ j x, xs[j]? = some x → f (i + j) x = g (i + j) x) → firstL f i xs = firstL g i xs
  | [], _, _ => rfl
  | x :: xs, i, h => by
    have e1 : f i x = g i x := h 0 x rfl
    have e2 : firstL f (i + 1) xs = firstL g (i + 1) xs := firstL_congr xs (i + 1) fun j y hy => by
      have := h (j + 1) y (by simpa using hy)
      rw [show i + 1 + j = i + (j + 1) by omega]; exact this
    simp only [firstL, e1, e2]
theorem firstL_none {f : Nat → TLink → Option (List Int)} : ∀ (xs : List TLink) (i : Nat), firstL f i xs = none → ∀ j x, xs[j]? = some x → f (i + j) x = none
  | [], _, _, j, x, h => by simp at h
  | y :: xs, i, hn, j, x, h => by
    simp only [firstL] at hn
    cases e : f i y with
    | some r => rw [e] at hn; cases hn
    | none =>
      rw [e] at hn
      cases j with
      | zero => simp at h; subst h; exact e
      | succ j => rw [show i + (j + 1) = i + 1 + j by omega]; exact firstL_none xs (i + 1) hn j x (by simpa using h)
theorem firstL_some {f : Nat → TLink → Option (List Int)} {r : List Int} : ∀ (xs : List TLink) (i : Nat), firstL f i xs = some r → ∃ j x, xs[j]? = some x ∧ f (i + j) x = some r
  | [], _, h => by cases h
  | y :: xs, i, h => by
    simp only [firstL] at h
    cases e : f i y with
    | some r' => rw [e] at h; cases h; exact ⟨0, y, rfl, e⟩
    | none =>
      rw [e] at h
      obtain ⟨j, x, h1, h2⟩ := firstL_some xs (i + 1) h
      exact ⟨j + 1, x, by simpa using h1, by rw [show i + (j + 1) = i + 1 + j by omega]; exact h2⟩
/-- the other end of a link, -1 if it does not end here -/
def nxt (x : TLink) (a : Int) : Int := if x.A = a then x.B else if x.B = a then x.A else -1
def bad (free : List Int) (rate : Int) (S : Int → Bool) (a : Int) (i : Nat) (x : TLink) : Bool := decide (nxt x a < 0) || decide (free.getD i 0 < rate) || S (nxt x a)
def imp (links : List TLink) (free : List Int) (to rate : Int) : Nat → Int → (Int → Bool) → Option (List Int)
  | 0, a, _ => if a = to then some [] else none
  | c + 1, a, S => if a = to then some [] else firstL (fun i x => if bad free rate S a i x then none else
      (imp links free to rate c (nxt x a) (fun v => v == nxt x a || S v)).map fun p => (i : Int) :: p) 0 links
def spc (links : List TLink) (free : List Int) (to rate : Int) : Nat → Int → (Int → Bool) → Option (List Int)
  | 0, _, _ => none
  | c + 1, a, S => firstL (fun i x => if bad free rate S a i x then none else if nxt x a = to then (if c = 0 then some [(i : Int)] else none) else
      (spc links free to rate c (nxt x a) (fun v => v == nxt x a || S v)).map fun p => (i : Int) :: p) 0 links
variable {links : List TLink} {free : List Int} {to rate : Int}
theorem imp_spc : ∀ (c : Nat) (a : Int) (S : Int → Bool), a ≠ to → imp links free to rate c a S = none → imp links free to rate (c + 1) a S = spc links free to rate (c + 1) a S
  | 0, a, S, ha, _ => by
    simp only [imp, spc, if_neg ha]
    refine firstL_congr _ _ fun j x _ => ?_
    by_cases hb : bad free rate S a (0 + j) x = true
    · simp [hb]
    · simp only [hb, if_false]
      by_cases hn : nxt x a = to
      · simp [hn]
      · simp [hn]
  | c + 1, a, S, ha, h => by
    rw [imp, spc]
    rw [if_neg ha]
    rw [imp, if_neg ha] at h
    refine firstL_congr _ _ fun j x hj => ?_
    have hx := firstL_none _ _ h j x hj
    simp only [Nat.zero_add] at hx ⊢
    by_cases hb : bad free rate S a j x = true
    · simp [hb]
    · rw [if_neg hb] at hx ⊢
      rw [if_neg hb]
      simp only [Option.map_eq_none_iff] at hx
      have hn : nxt x a ≠ to := by
        intro e
        rw [e] at hx
        cases c <;> simp [imp] at hx
      rw [if_neg hn, imp_spc c _ _ hn hx]
theorem imp_len : ∀ (c : Nat) (a : Int) (S : Int → Bool) (p : List Int), imp links free to rate c a S = some p → p.length ≤ c ∧ ∀ i ∈ p, 0 ≤ i ∧ i < links.length
  | 0, a, S, p, h => by
    simp only [imp] at h
    split at h
    · cases h; simp
    · cases h
  | c + 1, a, S, p, h => by
    rw [imp] at h
    split at h
    · cases h; simp
    · obtain ⟨j, x, h1, h2⟩ := firstL_some _ _ h
      split at h2
      · cases h2
      · rw [Option.map_eq_some_iff] at h2
        obtain ⟨q, h3, rfl⟩ := h2
        obtain ⟨l1, l2⟩ := imp_len c _ _ q h3
        have hj := (List.getElem?_eq_some_iff.1 h1).1
        refine ⟨by simp; omega, fun i hi => ?_⟩
        rcases List.mem_cons.1 hi with rfl | hi
        · omega
        · exact l2 i hi
theorem spc_len : ∀ (c : Nat) (a : Int) (S : Int → Bool) (p : List Int), spc links free to rate c a S = some p → p.length = c ∧ 0 < p.length
  | 0, a, S, p, h => by cases h
  | c + 1, a, S, p, h => by
    rw [spc] at h
    obtain ⟨j, x, h1, h2⟩ := firstL_some _ _ h
    split at h2
    · cases h2
    · split at h2
      · split at h2
        · rename_i hc; cases h2; simp [hc]
        · cases h2
      · rw [Option.map_eq_some_iff] at h2
        obtain ⟨q, h3, rfl⟩ := h2
        have := spc_len c _ _ q h3
        simp; omega
/-- the first count at which there is one -/
def upto (f : Nat → Option (List Int)) : Nat → Nat → Option (List Int)
  | 0, _ => none
  | n + 1, c => match f c with
    | some p => some p
    | none => upto f n (c + 1)
theorem upto_eq (a : Int) (S : Int → Bool) (ha : a ≠ to) : ∀ (n c : Nat), (imp links free to rate c a S = none) → upto (fun k => imp links free to rate k a S) n (c + 1) = upto (fun k => spc links free to rate k a S) n (c + 1)
  | 0, _, _ => rfl
  | n + 1, c, h => by
    have e := imp_spc c a S ha h
    simp only [upto]
    rw [e]
    cases hs : spc links free to rate (c + 1) a S with
    | some p => rfl
    | none => exact upto_eq a S ha n (c + 1) (by rw [e]; exact hs)
end Vs

namespace Vs
open Go
theorem bits_and_nat {a b : Nat} (ha : a < 2 ^ 63) (hb : b < 2 ^ 63) : bits .and .i64 (a : Int) (b : Int) = ((a &&& b : Nat) : Int) := by
  have h : a &&& b ≤ a := Nat.and_le_left
  unfold bits
  show IntKind.wrap .i64 (((BitVec.ofInt 64 (a : Int) &&& BitVec.ofInt 64 (b : Int)).toNat : Nat) : Int) = _
  rw [BitVec.toNat_and, BitVec.ofInt_natCast, BitVec.ofInt_natCast, BitVec.toNat_ofNat, BitVec.toNat_ofNat, Nat.mod_eq_of_lt (by omega), Nat.mod_eq_of_lt (by omega), w64_eq (by omega) (by omega)]
theorem bits_or_nat {a b : Nat} (ha : a < 2 ^ 62) (hb : b < 2 ^ 62) : bits .or .i64 (a : Int) (b : Int) = ((a ||| b : Nat) : Int) := by
  have h : a ||| b < 2 ^ 62 := Nat.or_lt_two_pow ha hb
  unfold bits
  show IntKind.wrap .i64 (((BitVec.ofInt 64 (a : Int) ||| BitVec.ofInt 64 (b : Int)).toNat : Nat) : Int) = _
  rw [BitVec.toNat_or, BitVec.ofInt_natCast, BitVec.ofInt_natCast, BitVec.toNat_ofNat, BitVec.toNat_ofNat, Nat.mod_eq_of_lt (by omega), Nat.mod_eq_of_lt (by omega), w64_eq (by omega) (by omega)]
theorem shr_nat (a v : Nat) (hv : v < 64) : Int.fdiv (a : Int) (2 ^ (min (Int.toNat (v : Int)) (IntKind.bits .i64))) = ((a / 2 ^ v : Nat) : Int) := by
  have e : min (Int.toNat (v : Int)) (IntKind.bits .i64) = v := by simp only [Int.toNat_natCast, IntKind.bits]; omega
  rw [e, Int.fdiv_eq_ediv_of_nonneg _ (Int.le_of_lt (Int.pow_pos (by decide)))]
  simp
theorem shl_nat (v : Nat) (hv : v < 62) : IntKind.wrap .i64 (1 * 2 ^ (min (Int.toNat (v : Int)) (IntKind.bits .i64))) = ((2 ^ v : Nat) : Int) := by
  have e : min (Int.toNat (v : Int)) (IntKind.bits .i64) = v := by simp only [Int.toNat_natCast, IntKind.bits]; omega
  have h : 2 ^ v < 2 ^ 62 := Nat.pow_lt_pow_right (by decide) hv
  have e2 : (1 * 2 ^ v : Int) = ((2 ^ v : Nat) : Int) := by simp
  rw [e, e2]
  generalize (2 ^ v : Nat) = p at h ⊢
  rw [w64_eq (by omega) (by omega)]
theorem bit_nat {a v : Nat} (ha : a < 2 ^ 62) (hv : v < 62) : (bits .and .i64 (Int.fdiv (a : Int) (2 ^ (min (Int.toNat (v : Int)) (IntKind.bits .i64)))) 1 == 1) = a.testBit v := by
  rw [shr_nat a v (by omega)]
  have h : a / 2 ^ v ≤ a := Nat.div_le_self _ _
  have := bits_and_nat (a := a / 2 ^ v) (b := 1) (by omega) (by decide)
  rw [show ((1 : Nat) : Int) = 1 from rfl] at this
  rw [this, Nat.and_one_is_mod, Nat.testBit_eq_decide_div_mod_eq]
  by_cases e : a / 2 ^ v % 2 = 1
  · simp [e]
  · have : ((a / 2 ^ v % 2 : Nat) : Int) ≠ 1 := by omega
    simp only [e, decide_false, beq_eq_false_iff_ne, ne_eq]
    exact this

theorem p_l1Has (l : List Int) (v : Int) (hl : l.length < 2 ^ 62) : M_spec_l1Has l v = some (l.contains v) := by
  unfold M_spec_l1Has
  have key := iter_any (f := M_spec_l1HasL1 l v) l (fun x => x == v) (.inr true) (.inl ()) (fun i x hx => by
    have hlt := (List.getElem?_eq_some_iff.1 hx).1
    have h1 : decide ((i : Int) < l.length) = true := by simp [hlt]
    simp only [M_spec_l1HasL1, h1, cond_true, geti_nat, hx, Option.bind_some]
    rw [w64_eq (by omega) (by omega)]
    rcases bt (x == v) with e | e <;> simp [e]) (by simp [M_spec_l1HasL1]) (by omega)
  rw [key]
  have e : l.contains v = l.any (fun x => x == v) := by
    rw [List.contains_eq_any_beq]; congr 1; funext x; exact Bool.beq_comm ..
  rw [e]
  rcases bt (l.any fun x => x == v) with h | h <;> simp [h]

theorem iter_first {B : Type} {f : Int → Option (Int ⊕ (Unit ⊕ B))} (links : List TLink) (F : Nat → TLink → Option (List Int)) (g : List Int → B)
    (h1 : ∀ (i : Nat) x, links[i]? = some x → f i = some (match F i x with | some r => .inr (.inr (g r)) | none => .inl ((i + 1 : Nat) : Int)))
    (h2 : f links.length = some (.inr (.inl ()))) (hl : links.length < 18446744073709551615) : iter f N0 0 = some (match firstL F 0 links with | some r => .inr (g r) | none => .inl ()) := by
  have key := iter_list (f := f) links (fun i (_ : Unit) => (i : Int)) (fun i x _ => match F i x with | some r => .inr (.inr (g r)) | none => .inl ()) (fun _ => .inl ()) (fun _ _ => True)
    (fun i a x hx _ => by
      cases h : F i x with
      | none => exact .inl ⟨(), rfl, trivial, by rw [h1 i x hx, h]⟩
      | some r => exact .inr ⟨_, rfl, by rw [h1 i x hx, h]⟩) (fun a _ => h2) () trivial hl
  refine key.trans ?_
  have gen : ∀ (ys : List TLink) (i : Nat), walkL (fun i x (_ : Unit) => match F i x with | some r => Sum.inr (Sum.inr (g r)) | none => .inl ()) (fun _ => (Sum.inl () : Unit ⊕ B)) i ys () = match firstL F i ys with | some r => .inr (g r) | none => .inl () := by
    intro ys
    induction ys with
    | nil => intro i; rfl
    | cons y ys ih =>
      intro i
      simp only [walkL, firstL]
      cases F i y with
      | none => exact ih (i + 1)
      | some r => rfl
  exact congrArg some (gen links 0)
theorem iter_upto {B : Type} {f : Int → Option (Int ⊕ (Unit ⊕ B))} (F : Nat → Option (List Int)) (g : List Int → B) (h1 : ∀ c : Nat, 1 ≤ c → c < 8 → f c = some (match F c with | some r => .inr (.inr (g r)) | none => .inl ((c + 1 : Nat) : Int)))
    (h2 : f 8 = some (.inr (.inl ()))) : iter f N0 1 = some (match upto F 7 1 with | some r => .inr (g r) | none => .inl ()) := by
  have key : ∀ (n c m : Nat), 1 ≤ c → c + n = 8 → n < m → iter f m (c : Int) = some (match upto F n c with | some r => .inr (g r) | none => .inl ()) := by
    intro n
    induction n with
    | zero =>
      intro c m _ hc hm
      have : c = 8 := by omega
      subst this
      cases m with
      | zero => omega
      | succ m => simp only [iter]; rw [show (((8 : Nat) : Int)) = 8 from rfl, h2]; rfl
    | succ n ih =>
      intro c m hc1 hc hm
      cases m with
      | zero => omega
      | succ m =>
        simp only [iter, h1 c hc1 (by omega), upto]
        cases F c with
        | some r => rfl
        | none => exact ih (c + 1) m (by omega) (by omega) (by omega)
  exact key 7 1 N0 (by decide) rfl (N0_lt (by decide))

/-- the links are valid, and as many rates are free -/
structure Good (links : List TLink) (free : List Int) : Prop where
  lnk : ∀ x ∈ links, x.A ≠ x.B ∧ 0 ≤ x.A ∧ x.A < 8 ∧ 0 ≤ x.B ∧ x.B < 8
  len : free.length = links.length
  few : links.length ≤ 12
theorem lks_good {links : List TLink} {n : Int} (h : lks links n = true) : links.length ≤ 12 ∧ (2 ≤ n ∧ n ≤ 8) ∧ ∀ x ∈ links, (x.A ≠ x.B ∧ 0 ≤ x.A ∧ x.A < 8 ∧ 0 ≤ x.B ∧ x.B < 8) ∧ 0 ≤ x.Capacity ∧ x.Capacity ≤ 10000 := by
  simp only [lks, wi, Bool.and_eq_true, decide_eq_true_eq, Bool.not_eq_true', List.any_eq_false, Bool.not_eq_false] at h
  obtain ⟨⟨⟨h1, h2⟩, h3⟩, h4⟩ := h
  refine ⟨h3, ⟨h1, h2⟩, fun x hx => ?_⟩
  have := h4 x hx
  simp only [lkOk, ends, wi, Bool.and_eq_true, decide_eq_true_eq, bne_iff_ne, ne_eq, Bool.not_eq_true, Bool.not_eq_false'] at this
  rw [w64_eq (by omega) (by omega)] at this
  obtain ⟨⟨⟨⟨a1, a2⟩, a3, a4⟩, a5⟩, a6, a7⟩ := this
  exact ⟨⟨a5, by omega, by omega, by omega, by omega⟩, a6, a7⟩
variable {links : List TLink} {free : List Int} {to rate : Int}
theorem nxt_range (hg : Good links free) {x : TLink} (hx : x ∈ links) (a : Int) : nxt x a = -1 ∨ 0 ≤ nxt x a ∧ nxt x a < 8 := by
  obtain ⟨h1, h2, h3, h4, h5⟩ := hg.lnk x hx
  unfold nxt
  split
  · right; omega
  · split
    · right; omega
    · left; rfl

theorem p_l18Find (hg : Good links free) : ∀ (c n : Nat) (a : Int) (S : Int → Bool) (l : List Int), c < n → c ≤ 8 → l.length + c ≤ 100 → (∀ v, l.contains v = S v) →
    M_spec_l18Find n links free a to rate c l = some ((spc links free to rate c a S).getD []) := by
  intro c
  induction c with
  | zero =>
    intro n a S l hn hc hl hS
    cases n with
    | zero => omega
    | succ n =>
      simp only [M_spec_l18Find, M_spec_l18Find_B, spc, Option.getD_none]
      have : iter (M_spec_l18FindL1 links free a to rate ((0 : Nat) : Int) l (M_spec_l18Find n)) N0 0 = some (.inl ()) := by
        rw [show N0 = (N0 - 1) + 1 from rfl]
        simp only [iter]
        have e : M_spec_l18FindL1 links free a to rate ((0 : Nat) : Int) l (M_spec_l18Find n) 0 = some (.inr (.inl ())) := by
          unfold M_spec_l18FindL1
          rcases bt (decide ((0 : Int) < links.length)) with e | e <;> simp [e]
        rw [e]
      rw [this]; rfl
  | succ c ih =>
    intro n a S l hn hc hl hS
    cases n with
    | zero => omega
    | succ n =>
      simp only [M_spec_l18Find, M_spec_l18Find_B, spc]
      have key := iter_first (f := M_spec_l18FindL1 links free a to rate ((c + 1 : Nat) : Int) l (M_spec_l18Find n)) links
        (fun i x => if bad free rate S a i x then none else if nxt x a = to then (if c = 0 then some [(i : Int)] else none) else
          (spc links free to rate c (nxt x a) (fun v => v == nxt x a || S v)).map fun p => (i : Int) :: p) id (fun i x hx => by
          have hlt := (List.getElem?_eq_some_iff.1 hx).1
          have hm := List.mem_of_getElem? hx
          obtain ⟨hne, hA, hA', hB, hB'⟩ := hg.lnk x hm
          have hfew := hg.few
          have h1 : decide ((i : Int) < links.length) = true := by simp [hlt]
          have h2 : decide ((0 : Int) < ((c + 1 : Nat) : Int)) = true := by simp <;> omega
          have hf : free[i]? = some (free.getD i 0) := by
            have : i < free.length := by rw [hg.len]; exact hlt
            rw [List.getD_eq_getElem?_getD, List.getElem?_eq_getElem this]; rfl
          have hn2 : (cond (x.B == a) (some x.A) (some (cond (x.A == a) x.B (-1))) : Option Int) = some (nxt x a) := by
            unfold nxt
            by_cases e1 : x.A = a
            · by_cases e2 : x.B = a
              · exact absurd (e1.trans e2.symm) hne
              · have e3 : (x.B == a) = false := by simp [e2]
                have e4 : (x.A == a) = true := by simp [e1]
                rw [e3, e4]; simp [e1]
            · by_cases e2 : x.B = a
              · have e3 : (x.B == a) = true := by simp [e2]
                rw [e3]; simp [e1, e2]
              · have e3 : (x.B == a) = false := by simp [e2]
                have e4 : (x.A == a) = false := by simp [e1]
                rw [e3, e4]; simp [e1, e2]
          have hn1 : (cond (x.A == a) (some x.B) (some (-1)) : Option Int) = some (cond (x.A == a) x.B (-1)) := by cases (x.A == a) <;> rfl
          simp only [M_spec_l18FindL1, h1, cond_true, h2, Option.bind_some, geti_nat, hx, hn1, hn2, hf, p_l1Has l _ (by omega), hS]
          have hb : (cond (decide (nxt x a < 0)) (some true) (cond (decide (free.getD i 0 < rate)) (some true) (some (S (nxt x a)))) : Option Bool) = some (bad free rate S a i x) := by
            unfold bad
            cases decide (nxt x a < 0) <;> cases decide (free.getD i 0 < rate) <;> simp
          rw [hb]
          simp only [Option.bind_some]
          rw [w64_eq (n := (i : Int) + 1) (by omega) (by omega), w64_eq (by omega) (by omega)]
          rcases bt (bad free rate S a i x) with e | e
          · simp [e]
          · simp only [e, cond_false, Bool.false_eq_true, if_false]
            by_cases e2 : nxt x a = to
            · have : (nxt x a == to) = true := by simp [e2]
              rw [this]
              simp only [cond_true, if_pos e2, bnd]
              by_cases e3 : c = 0
              · subst e3; simp
              · have : (((c + 1 : Nat) : Int) == 1) = false := by simp; omega
                rw [this]; simp [e3]
            · have : (nxt x a == to) = false := by simp [e2]
              rw [this]
              simp only [cond_false, if_neg e2, bnd, M_spec_l1Own]
              rw [grd_t (by omega)]
              simp only [Option.bind_some]
              rw [grd_t (by omega)]
              simp only [Option.bind_some]
              have hr := ih n (nxt x a) (fun v => v == nxt x a || S v) (l ++ [nxt x a]) (by omega) (by omega) (by simp; omega) (fun v => by
                rw [← hS v, List.contains_append, Bool.or_comm]
                congr 1
                by_cases e : v = nxt x a <;> simp [e])
              rw [show (((c + 1 : Nat) : Int) - 1) = (c : Int) by omega, hr]
              simp only [Option.bind_some]
              cases hs : spc links free to rate c (nxt x a) (fun v => v == nxt x a || S v) with
              | none => simp
              | some p =>
                have hp := spc_len c _ _ p hs
                have : decide ((0 : Int) < p.length) = true := by simp; omega
                simp only [Option.getD_some, this, cond_true]
                rw [grd_t (by omega)]
                simp) (by
          unfold M_spec_l18FindL1
          simp) (by have := hg.few; omega)
      rw [key]
      cases firstL (fun i x => if bad free rate S a i x then none else if nxt x a = to then (if c = 0 then some [(i : Int)] else none) else
          (spc links free to rate c (nxt x a) (fun v => v == nxt x a || S v)).map fun p => (i : Int) :: p) 0 links <;> rfl
end Vs

namespace Vs
open Go
theorem p_otherEnd (A B a : Int) (x : TLink) (hA : x.A = A) (hB : x.B = B) : M_impl_otherEnd ⟨A, B, 0, 0⟩ a = some (nxt x a) := by
  unfold M_impl_otherEnd nxt
  subst hA hB
  by_cases e1 : a = x.A
  · simp [e1]
  · have e3 : ¬ x.A = a := fun e => e1 e.symm
    by_cases e2 : a = x.B
    · have e4 : (a == x.A) = false := by simp [e1]
      have e5 : (a == x.B) = true := by simp [e2]
      rw [e4, e5, if_neg e3, if_pos e2.symm]; rfl
    · have e4 : (a == x.A) = false := by simp [e1]
      have e5 : (a == x.B) = false := by simp [e2]
      rw [e4, e5, if_neg e3, if_neg fun e => e2 e.symm]; rfl
variable {links : List TLink} {free : List Int} {to rate : Int}
theorem p_leads (hg : Good links free) : ∀ (c n : Nat) (a : Int) (S : Int → Bool) (m : Nat), c < n → c ≤ 8 → m < 256 → (∀ v : Nat, v < 8 → m.testBit v = S v) →
    M_impl_leads n links free a to rate c m = some (match imp links free to rate c a S with | some p => (p, true) | none => ([], false)) := by
  intro c
  induction c with
  | zero =>
    intro n a S m hn hc hm hS
    cases n with
    | zero => omega
    | succ n =>
      simp only [M_impl_leads, M_impl_leads_B, imp]
      by_cases e : a = to
      · have h : (a == to) = true := by simp [e]
        rw [h, if_pos e]; rfl
      · have h : (a == to) = false := by simp [e]
        rw [h, if_neg e]; rfl
  | succ c ih =>
    intro n a S m hn hc hm hS
    cases n with
    | zero => omega
    | succ n =>
      simp only [M_impl_leads, M_impl_leads_B, imp]
      by_cases e : a = to
      · have h : (a == to) = true := by simp [e]
        rw [h, if_pos e]; rfl
      · have h : (a == to) = false := by simp [e]
        have h0 : (((c + 1 : Nat) : Int) == 0) = false := by simp; omega
        rw [h, if_neg e, h0]
        simp only [cond_false]
        have key := iter_first (f := M_impl_leadsL1 links free a to rate ((c + 1 : Nat) : Int) m (M_impl_leads n)) links
          (fun i x => if bad free rate S a i x then none else
            (imp links free to rate c (nxt x a) (fun v => v == nxt x a || S v)).map fun p => (i : Int) :: p) (fun p => (p, true)) (fun i x hx => by
            have hlt := (List.getElem?_eq_some_iff.1 hx).1
            have hmm := List.mem_of_getElem? hx
            obtain ⟨hne, hA, hA', hB, hB'⟩ := hg.lnk x hmm
            have hfew := hg.few
            have h1 : decide ((i : Int) < links.length) = true := by simp [hlt]
            have hf : free[i]? = some (free.getD i 0) := by
              have : i < free.length := by rw [hg.len]; exact hlt
              rw [List.getD_eq_getElem?_getD, List.getElem?_eq_getElem this]; rfl
            simp only [M_impl_leadsL1, h1, cond_true, geti_nat, hx, hf, Option.bind_some, p_otherEnd x.A x.B a x rfl rfl]
            rw [w64_eq (n := (i : Int) + 1) (by omega) (by omega), w64_eq (by omega) (by omega)]
            rcases nxt_range hg hmm a with e3 | ⟨e3, e4⟩
            · have hb : bad free rate S a i x = true := by simp [bad, e3]
              have h3 : decide (nxt x a < 0) = true := by simp [e3]
              rw [hb, h3]; simp
            · have hbad : bad free rate S a i x = (decide (free.getD i 0 < rate) || S (nxt x a)) := by
                have : decide (nxt x a < 0) = false := by simp; omega
                unfold bad; rw [this, Bool.false_or]
              obtain ⟨v, hv⟩ := Int.eq_ofNat_of_zero_le e3
              rw [hbad]
              generalize nxt x a = y at *
              subst hv
              have hv8 : v < 8 := by omega
              have hmm2 : (m ||| 2 ^ v) < 256 := Nat.or_lt_two_pow (n := 8) hm (Nat.pow_lt_pow_right (by decide) hv8)
              have h3 : decide ((v : Int) < 0) = false := by simp
              have h2v : 2 ^ v < 2 ^ 62 := Nat.pow_lt_pow_right (by decide) (by omega)
              rw [h3, grd_t (by omega)]
              simp only [cond_false, Option.bind_some]
              rw [bit_nat (by omega) (by omega), shl_nat v (by omega), bits_or_nat (by omega) h2v, hS v hv8]
              have hr := ih n (v : Int) (fun w => w == (v : Int) || S w) (m ||| 2 ^ v) (by omega) (by omega) hmm2 (fun w hw => by
                rw [Nat.testBit_or, Nat.testBit_two_pow, hS w hw, Bool.or_comm]
                congr 1
                by_cases e : v = w
                · simp [e]
                · have : ¬ ((w : Int) = (v : Int)) := by omega
                  simp [e, this])
              rw [show (((c + 1 : Nat) : Int) - 1) = (c : Int) by omega, hr]
              rcases bt (decide (free.getD i 0 < rate)) with e5 | e5
              · rw [e5]; simp
              · rw [e5]
                rcases bt (S (v : Int)) with e6 | e6
                · rw [e6]; simp
                · rw [e6]
                  simp only [cond_false, Option.bind_some, Bool.or_false, Bool.false_eq_true, if_false]
                  cases hs : imp links free to rate c (v : Int) (fun w => w == (v : Int) || S w) with
                  | none => simp
                  | some p =>
                    have hp := imp_len c _ _ p hs
                    simp only [cond_true, bnd]
                    rw [grd_t (by omega)]
                    simp) (by
            unfold M_impl_leadsL1
            simp) (by have := hg.few; omega)
        rw [key]
        cases firstL (fun i x => if bad free rate S a i x then none else
            (imp links free to rate c (nxt x a) (fun v => v == nxt x a || S v)).map fun p => (i : Int) :: p) 0 links <;> rfl
def at1 (t : TTributary) : Int → Bool := fun v => v == t.From
def rt (links : List TLink) (free : List Int) (t : TTributary) : Option (List Int) := upto (fun k => imp links free t.To t.Rate k t.From (at1 t)) 7 1
def rs (links : List TLink) (free : List Int) (t : TTributary) : Option (List Int) := upto (fun k => spc links free t.To t.Rate k t.From (at1 t)) 7 1
theorem upto_some {f : Nat → Option (List Int)} {p : List Int} : ∀ (n c : Nat), upto f n c = some p → ∃ k, k < c + n ∧ f k = some p
  | 0, _, h => by cases h
  | n + 1, c, h => by
    simp only [upto] at h
    cases e : f c with
    | some q => rw [e] at h; cases h; exact ⟨c, by omega, e⟩
    | none =>
      rw [e] at h
      obtain ⟨k, h1, h2⟩ := upto_some n (c + 1) h
      exact ⟨k, by omega, h2⟩
theorem rt_rs (t : TTributary) (h : t.From ≠ t.To) : rt links free t = rs links free t :=
  upto_eq t.From (at1 t) h 7 0 (by simp [imp, h])
theorem rt_len {t : TTributary} {p : List Int} (h : rt links free t = some p) : p.length ≤ 7 ∧ ∀ i ∈ p, 0 ≤ i ∧ i < links.length := by
  obtain ⟨k, h1, h2⟩ := upto_some _ _ h
  have := imp_len k _ _ p h2
  exact ⟨by omega, this.2⟩
theorem rs_pos {t : TTributary} {p : List Int} (h : rs links free t = some p) : 0 < p.length := by
  obtain ⟨k, h1, h2⟩ := upto_some _ _ h
  exact (spc_len k _ _ p h2).2
theorem p_l18Route (hg : Good links free) (t : TTributary) : M_spec_l18Route links free t = some ((rs links free t).getD []) := by
  unfold M_spec_l18Route
  rw [iter_upto (f := M_spec_l18RouteL1 links free t) (fun k => spc links free t.To t.Rate k t.From (at1 t)) id (fun c hc hc8 => by
    have hlt : decide ((c : Int) < 8) = true := by simp; omega
    simp only [M_spec_l18RouteL1, hlt, cond_true, bnd]
    rw [p_l18Find hg c N0 t.From (at1 t) [t.From] (N0_lt (by omega)) (by omega) (by simp; omega) (fun v => by by_cases e : v = t.From <;> simp [at1, e])]
    simp only [Option.bind_some]
    rw [w64_eq (by omega) (by omega)]
    cases hs : spc links free t.To t.Rate c t.From (at1 t) with
    | none => simp
    | some p =>
      have hp := spc_len c _ _ p hs
      have : decide ((0 : Int) < p.length) = true := by simp; omega
      simp only [Option.getD_some, this, cond_true]; rfl) (by unfold M_spec_l18RouteL1; simp)]
  unfold rs
  cases upto (fun k => spc links free t.To t.Rate k t.From (at1 t)) 7 1 <;> rfl
theorem p_routed (hg : Good links free) (t : TTributary) (h0 : 0 ≤ t.From) (h8 : t.From < 8) : M_impl_routed links free t = some (match rt links free t with | some p => (p, true) | none => ([], false)) := by
  unfold M_impl_routed
  obtain ⟨v, hv⟩ := Int.eq_ofNat_of_zero_le h0
  have hv8 : v < 8 := by omega
  rw [iter_upto (f := M_impl_routedL1 links free t) (fun k => imp links free t.To t.Rate k t.From (at1 t)) (fun p => (p, true)) (fun c hc hc8 => by
    have hlt : decide ((c : Int) < 8) = true := by simp; omega
    simp only [M_impl_routedL1, hlt, cond_true]
    rw [grd_t h0]
    simp only [Option.bind_some]
    have hm : (IntKind.wrap .i64 (1 * 2 ^ (min (Int.toNat t.From) (IntKind.bits .i64)))) = ((2 ^ v : Nat) : Int) := by rw [hv]; exact shl_nat v (by omega)
    rw [hm, p_leads hg c N0 t.From (at1 t) (2 ^ v) (N0_lt (by omega)) (by omega) (Nat.pow_lt_pow_right (n := 8) (by decide) hv8) (fun w hw => by
      rw [Nat.testBit_two_pow, at1, hv]
      by_cases e : v = w
      · simp [e]
      · have : ¬ ((w : Int) = (v : Int)) := by omega
        simp [e, this])]
    simp only [Option.bind_some]
    rw [w64_eq (by omega) (by omega)]
    cases hs : imp links free t.To t.Rate c t.From (at1 t) <;> simp) (by unfold M_impl_routedL1; simp)]
  unfold rt
  cases upto (fun k => imp links free t.To t.Rate k t.From (at1 t)) 7 1 <;> rfl
end Vs

namespace Vs
open Go
theorem tr_good {ts : List TTributary} {n : Int} (h : tribs ts n = true) : ts.length ≤ 12 ∧ ∀ t ∈ ts, (t.From ≠ t.To ∧ 0 ≤ t.From ∧ t.From < 8) ∧ 1 ≤ t.Rate ∧ t.Rate ≤ 1000 := by
  simp only [tribs, wi, Bool.and_eq_true, decide_eq_true_eq, Bool.not_eq_true', List.any_eq_false, Bool.not_eq_false] at h
  obtain ⟨⟨⟨h1, h2⟩, h3⟩, h4⟩ := h
  refine ⟨h3, fun x hx => ?_⟩
  have := h4 x hx
  simp only [trOk, ends, wi, Bool.and_eq_true, decide_eq_true_eq, bne_iff_ne, ne_eq, Bool.not_eq_true, Bool.not_eq_false'] at this
  rw [w64_eq (by omega) (by omega)] at this
  obtain ⟨⟨⟨⟨a1, a2⟩, a3, a4⟩, a5⟩, a6, a7⟩ := this
  exact ⟨⟨a5, by omega, by omega⟩, a6, a7⟩
variable {links : List TLink} {free : List Int}
theorem mkGood {n : Int} (h : lks links n = true) (hl : free.length = links.length) : Good links free :=
  ⟨fun x hx => ((lks_good h).2.2 x hx).1, hl, (lks_good h).1⟩
end Vs

namespace Vs
open Go
theorem iter_fold {α A S B : Type} {f : S → Option (S ⊕ B)} (xs : List α) (st : Nat → A → S) (g : A → α → A) (fin : A → B) (I : Nat → A → Prop)
    (h1 : ∀ i a x, xs[i]? = some x → I i a → I (i + 1) (g a x) ∧ f (st i a) = some (.inl (st (i + 1) (g a x))))
    (h2 : ∀ a, I xs.length a → f (st xs.length a) = some (.inr (fin a))) (a0 : A) (h0 : I 0 a0) (hl : xs.length < 18446744073709551615) :
    iter f N0 (st 0 a0) = some (fin (xs.foldl g a0)) := by
  rw [iter_list xs st (fun _ x a => .inl (g a x)) fin I (fun i a x hx hI => .inl ⟨g a x, rfl, (h1 i a x hx hI).1, (h1 i a x hx hI).2⟩) h2 a0 h0 hl]
  have gen : ∀ (ys : List α) (i : Nat) (a : A), walkL (fun _ x a => (.inl (g a x) : A ⊕ B)) fin i ys a = fin (ys.foldl g a) := by
    intro ys
    induction ys with
    | nil => intro i a; rfl
    | cons y ys ih => intro i a; exact ih (i + 1) (g a y)
  rw [gen]
def takes (r : Int) : List Int → List Int → List Int
  | [], F => F
  | x :: p, F => takes r p (F.set x.toNat (IntKind.wrap .i64 (F.getD x.toNat 0 - r)))
theorem takes_len (r : Int) : ∀ (p F : List Int), (takes r p F).length = F.length
  | [], _ => rfl
  | x :: p, F => by rw [takes, takes_len r p]; simp
theorem takes_fold (r : Int) : ∀ (p F : List Int), p.foldl (fun F x => F.set x.toNat (IntKind.wrap .i64 (F.getD x.toNat 0 - r))) F = takes r p F
  | [], _ => rfl
  | x :: p, F => takes_fold r p _
def fit (links : List TLink) (F : List Int) (t : TTributary) : List Int := (rt links F t).getD []
def paths (links : List TLink) : List TTributary → List Int → List (List Int)
  | [], _ => []
  | t :: ts, F => fit links F t :: paths links ts (takes t.Rate (fit links F t) F)
def rest (links : List TLink) : List TTributary → List Int → List Int
  | [], F => F
  | t :: ts, F => rest links ts (takes t.Rate (fit links F t) F)
def blk (links : List TLink) : List TTributary → List Int → Int → Int
  | [], _, b => b
  | t :: ts, F, b => blk links ts (takes t.Rate (fit links F t) F) (if (rt links F t).isSome then b else IntKind.wrap .i64 (b + t.Rate))
theorem paths_len (links : List TLink) : ∀ (ts : List TTributary) (F : List Int), (paths links ts F).length = ts.length
  | [], _ => rfl
  | t :: ts, F => by simp [paths, paths_len links ts]
theorem blk_zip (links : List TLink) : ∀ (ts : List TTributary) (F : List Int) (b : Int), (∀ t ∈ ts, t.From ≠ t.To) →
    (ts.zip (paths links ts F)).foldl (fun b x => if x.2.length = 0 then IntKind.wrap .i64 (b + x.1.Rate) else b) b = blk links ts F b
  | [], _, _, _ => rfl
  | t :: ts, F, b, h => by
    simp only [paths, List.zip_cons_cons, List.foldl_cons, blk]
    rw [blk_zip links ts _ _ fun t ht => h t (by simp [ht])]
    congr 1
    cases hr : rt links F t with
    | none => simp [fit, hr]
    | some p =>
      have := rs_pos ((rt_rs t (h t (by simp))).symm.trans hr)
      have : ¬ (p = []) := by intro e; subst e; simp at this
      simp [fit, hr, this]
variable {links : List TLink}
theorem p_caps {f : Int × List Int → Option ((Int × List Int) ⊕ List Int)} (hl : links.length ≤ 12)
    (h : ∀ s, f s = cond (decide (s.1 < (links.length : Int))) ((geti links s.1).bind fun y => bnd ([y.Capacity]) fun l => (grd ((s.2.length + 1) * 8 ≤ 140737488355328)).bind fun _ => bnd (s.2 ++ l) fun l2 => some (.inl (IntKind.wrap .i64 (s.1 + 1), l2))) (some (.inr s.2))) :
    iter f N0 (0, []) = some (links.map fun x => x.Capacity) := by
  have key := iter_fold (f := f) links (fun i (a : List Int) => ((i : Int), a)) (fun a x => a ++ [x.Capacity]) id (fun i a => a.length = i) (fun i a x hx hI => by
    have hlt := (List.getElem?_eq_some_iff.1 hx).1
    have h1 : decide ((i : Int) < links.length) = true := by simp [hlt]
    refine ⟨by simp [hI], ?_⟩
    rw [h]
    simp only [h1, cond_true, geti_nat, hx, Option.bind_some, bnd]
    rw [grd_t (by omega), w64_eq (by omega) (by omega)]
    simp) (fun a _ => by rw [h]; simp) [] rfl (by omega)
  refine key.trans ?_
  have gen : ∀ (xs : List TLink) (a : List Int), xs.foldl (fun a x => a ++ [x.Capacity]) a = a ++ xs.map fun x => x.Capacity := by
    intro xs
    induction xs with
    | nil => intro a; simp
    | cons y ys ih => intro a; simp [ih]
  rw [gen]; rfl
theorem p_takes {f : Int × List Int → Option ((Int × List Int) ⊕ List Int)} (p F : List Int) (r : Int) (hp : ∀ i ∈ p, 0 ≤ i ∧ i < F.length) (hl : p.length ≤ 7)
    (h : ∀ (i : Nat) x G, p[i]? = some x → G.length = F.length → 0 ≤ x → x < G.length → f ((i : Int), G) = some (.inl (IntKind.wrap .i64 ((i : Int) + 1), G.set x.toNat (IntKind.wrap .i64 (G.getD x.toNat 0 - r)))))
    (h2 : ∀ G, f (p.length, G) = some (.inr G)) : iter f N0 (0, F) = some (takes r p F) := by
  have key := iter_fold (f := f) p (fun i (a : List Int) => ((i : Int), a)) (fun F x => F.set x.toNat (IntKind.wrap .i64 (F.getD x.toNat 0 - r))) id (fun i a => a.length = F.length) (fun i a x hx hI => by
    have hlt := (List.getElem?_eq_some_iff.1 hx).1
    obtain ⟨g1, g2⟩ := hp x (List.mem_of_getElem? hx)
    refine ⟨by simp [hI], ?_⟩
    rw [h i x a hx hI g1 (by omega), w64_eq (by omega) (by omega)]
    rfl) (fun a _ => h2 a) F rfl (by omega)
  refine key.trans ?_
  rw [takes_fold]; rfl
theorem fit_in {F : List Int} (hF : F.length = links.length) (t : TTributary) : (fit links F t).length ≤ 7 ∧ ∀ i ∈ fit links F t, 0 ≤ i ∧ i < F.length := by
  unfold fit
  cases h : rt links F t with
  | none => simp
  | some p => have := rt_len h; rw [hF]; exact this
theorem get_at {α : Type} {l : List α} {x : Int} (h0 : 0 ≤ x) (h : x < l.length) (d : α) : l[x.toNat]? = some (l.getD x.toNat d) := by
  have : x.toNat < l.length := by omega
  rw [List.getD_eq_getElem?_getD, List.getElem?_eq_getElem this]; rfl
theorem fold_paths (ts : List TTributary) : ∀ (R : List (List Int)) (F : List Int), ts.foldl (fun (a : List (List Int) × List Int) t => (a.1 ++ [fit links a.2 t], takes t.Rate (fit links a.2 t) a.2)) (R, F) = (R ++ paths links ts F, rest links ts F) := by
  induction ts with
  | nil => intro R F; simp [paths, rest]
  | cons t ts ih => intro R F; simp [ih, paths, rest]
theorem fold_blk (ts : List TTributary) : ∀ (b : Int) (R : List (List Int)) (F : List Int), ts.foldl (fun (a : Int × List (List Int) × List Int) t => (if (rt links a.2.2 t).isSome then a.1 else IntKind.wrap .i64 (a.1 + t.Rate), a.2.1 ++ [fit links a.2.2 t], takes t.Rate (fit links a.2.2 t) a.2.2)) (b, R, F) = (blk links ts F b, R ++ paths links ts F, rest links ts F) := by
  induction ts with
  | nil => intro b R F; simp [paths, rest, blk]
  | cons t ts ih => intro b R F; simp [ih, paths, rest, blk]
def caps (links : List TLink) : List Int := links.map fun x => x.Capacity
theorem p_GroomAll (n : Int) (ts : List TTributary) (hl : links.length < 2 ^ 62) (ht : ts.length < 2 ^ 62) :
    M_spec_GroomAll links n ts = some (if lks links n && tribs ts n then (paths links ts (caps links), rest links ts (caps links), true) else ([], [], false)) := by
  unfold M_spec_GroomAll
  simp only [p_l18Links links n hl, p_spec_IsValidTributaries ts n ht, Option.bind_some]
  rcases bt (lks links n) with e1 | e1
  · rcases bt (tribs ts n) with e2 | e2
    · have gl := (lks_good e1).1
      obtain ⟨gt, g⟩ := tr_good e2
      have key := iter_fold (f := M_spec_GroomAllL2 links ts) ts (fun i (a : List (List Int) × List Int) => ((i : Int), a)) (fun (a : List (List Int) × List Int) t => (a.1 ++ [fit links a.2 t], takes t.Rate (fit links a.2 t) a.2)) id (fun i a => a.1.length = i ∧ a.2.length = links.length) (fun i a x hx hI => by
        have hlt := (List.getElem?_eq_some_iff.1 hx).1
        have h1 : decide ((i : Int) < ts.length) = true := by simp [hlt]
        obtain ⟨⟨g1, g2, g3⟩, _⟩ := g x (List.mem_of_getElem? hx)
        refine ⟨⟨by simp [hI.1], by simp [takes_len, hI.2]⟩, ?_⟩
        obtain ⟨q1, q2⟩ := fit_in hI.2 x
        have hr : M_spec_l18Route links a.2 x = some (fit links a.2 x) := by rw [p_l18Route (mkGood e1 hI.2) x, ← rt_rs x g1]; rfl
        simp only [M_spec_GroomAllL2, h1, cond_true, geti_nat, hx, Option.bind_some, hr]
        rw [p_takes (fit links a.2 x) a.2 x.Rate q2 q1 (fun j y G hy hG y0 y1 => by
          have hjl := (List.getElem?_eq_some_iff.1 hy).1
          have j1 : decide ((j : Int) < (fit links a.2 x).length) = true := by simp [hjl]
          simp only [M_spec_GroomAllL3, j1, cond_true, Int.toNat_natCast, geti_nat, hx, hy, Option.bind_some, bnd]
          rw [grd_t ⟨by omega, by omega⟩]
          simp only [Option.bind_some]
          rw [grd_t ⟨by omega, by omega⟩]
          simp only [Option.bind_some]
          rw [get_at y0 y1 0]
          rfl) (fun G => by simp [M_spec_GroomAllL3])]
        simp only [Option.bind_some, bnd]
        rw [grd_t (by omega), w64_eq (by omega) (by omega)]
        rfl) (fun a _ => by simp [M_spec_GroomAllL2]) ([], caps links) ⟨rfl, by simp [caps]⟩ (by omega)
      have kc := p_caps (f := M_spec_GroomAllL1 links) gl (fun s => rfl)
      simp only [e1, e2, Bool.not_true, cond_false, cond_true, Option.bind_some, kc]
      rw [show (links.map fun x => x.Capacity) = caps links from rfl, show iter (M_spec_GroomAllL2 links ts) N0 (0, [], caps links) = _ from key]
      simp [fold_paths]
    · simp [e1, e2]
  · simp [e1]
theorem p_groomed (n : Int) (ts : List TTributary) (e1 : lks links n = true) (e2 : tribs ts n = true) :
    M_impl_groomed links ts = some (paths links ts (caps links), rest links ts (caps links), blk links ts (caps links) 0) := by
  unfold M_impl_groomed
  have gl := (lks_good e1).1
  obtain ⟨gt, g⟩ := tr_good e2
  have key := iter_fold (f := M_impl_groomedL2 links ts) ts (fun i (a : Int × List (List Int) × List Int) => (a.1, (i : Int), a.2)) (fun (a : Int × List (List Int) × List Int) t => (if (rt links a.2.2 t).isSome then a.1 else IntKind.wrap .i64 (a.1 + t.Rate), a.2.1 ++ [fit links a.2.2 t], takes t.Rate (fit links a.2.2 t) a.2.2)) id (fun i a => a.2.1.length = i ∧ a.2.2.length = links.length) (fun i a x hx hI => by
    have hlt := (List.getElem?_eq_some_iff.1 hx).1
    have h1 : decide ((i : Int) < ts.length) = true := by simp [hlt]
    obtain ⟨⟨g1, g2, g3⟩, _⟩ := g x (List.mem_of_getElem? hx)
    refine ⟨⟨by simp [hI.1], by simp [takes_len, hI.2]⟩, ?_⟩
    obtain ⟨q1, q2⟩ := fit_in hI.2 x
    have hr : M_impl_routed links a.2.2 x = some (fit links a.2.2 x, (rt links a.2.2 x).isSome) := by
      rw [p_routed (mkGood e1 hI.2) x g2 g3]
      unfold fit
      cases rt links a.2.2 x <;> rfl
    simp only [M_impl_groomedL2, h1, cond_true, geti_nat, hx, Option.bind_some, hr]
    have hc : (cond (!(rt links a.2.2 x).isSome) (some (IntKind.wrap .i64 (a.1 + x.Rate))) (some a.1) : Option Int) = some (if (rt links a.2.2 x).isSome then a.1 else IntKind.wrap .i64 (a.1 + x.Rate)) := by
      cases (rt links a.2.2 x).isSome <;> rfl
    rw [hc]
    simp only [Option.bind_some]
    rw [p_takes (fit links a.2.2 x) a.2.2 x.Rate q2 q1 (fun j y G hy hG y0 y1 => by
      have hjl := (List.getElem?_eq_some_iff.1 hy).1
      have j1 : decide ((j : Int) < (fit links a.2.2 x).length) = true := by simp [hjl]
      simp only [M_impl_groomedL3, j1, cond_true, Int.toNat_natCast, hy, Option.bind_some, bnd]
      rw [grd_t ⟨by omega, by omega⟩]
      simp only [Option.bind_some]
      rw [grd_t ⟨by omega, by omega⟩]
      simp only [Option.bind_some]
      rw [get_at y0 y1 0]
      rfl) (fun G => by simp [M_impl_groomedL3])]
    simp only [Option.bind_some, bnd]
    rw [grd_t (by omega), w64_eq (n := (i : Int) + 1) (by omega) (by omega)]
    rfl) (fun a _ => by simp [M_impl_groomedL2]) (0, [], caps links) ⟨rfl, by simp [caps]⟩ (by omega)
  have kc := p_caps (f := M_impl_groomedL1 links) gl (fun s => rfl)
  simp only [kc, Option.bind_some]
  rw [show (links.map fun x => x.Capacity) = caps links from rfl, show iter (M_impl_groomedL2 links ts) N0 (0, 0, [], caps links) = _ from key]
  simp [fold_blk]
end Vs

namespace Vs
open Go
variable {links : List TLink}
def GA (links : List TLink) (n : Int) (ts : List TTributary) : List (List Int) × List Int × Bool := if lks links n && tribs ts n then (paths links ts (caps links), rest links ts (caps links), true) else ([], [], false)
theorem p_spec_GroomAll (x1 : List TLink) (x2 : Int) (x3 : List TTributary) (z1 : z_LinkS x1 ≤ 1048576) (z3 : z_TributaryS x3 ≤ 1048576) : M_spec_GroomAll x1 x2 x3 = some (GA x1 x2 x3) :=
  p_GroomAll x2 x3 (by unfold z_LinkS at z1; omega) (by unfold z_TributaryS at z3; omega)
theorem p_impl_GroomAll (x1 : List TLink) (x2 : Int) (x3 : List TTributary) (z1 : z_LinkS x1 ≤ 1048576) (z3 : z_TributaryS x3 ≤ 1048576) : M_impl_GroomAll x1 x2 x3 = some (GA x1 x2 x3) := by
  unfold z_LinkS at z1; unfold z_TributaryS at z3
  unfold M_impl_GroomAll M_impl_isGrooming GA
  simp only [p_areLinks x1 x2 (by omega), p_impl_IsValidTributaries x3 x2 (by omega), Option.bind_some]
  rcases bt (lks x1 x2) with e1 | e1
  · rcases bt (tribs x3 x2) with e2 | e2
    · simp [e1, e2, p_groomed x2 x3 e1 e2]
    · simp [e1, e2]
  · simp [e1]
theorem paths_z (hF : ∀ F : List Int, F.length = links.length → ∀ t, (fit links F t).length ≤ 7) : ∀ (ts : List TTributary) (F : List Int), F.length = links.length → z_IntSS (paths links ts F) ≤ 8 * ts.length
  | [], F, h => by simp [paths, z_IntSS]
  | t :: ts, F, h => by
    have h1 := hF F h t
    have h2 := paths_z hF ts (takes t.Rate (fit links F t) F) (by rw [takes_len]; exact h)
    unfold z_IntSS z_IntS at h2 ⊢
    simp only [paths, List.length_cons, List.map_cons, List.sum_cons]
    omega
theorem rest_len : ∀ (ts : List TTributary) (F : List Int), (rest links ts F).length = F.length
  | [], F => rfl
  | t :: ts, F => by rw [rest, rest_len ts, takes_len]
theorem zr_GroomAll (x1 : List TLink) (x2 : Int) (x3 : List TTributary) (z1 : z_LinkS x1 ≤ 1048576) (z3 : z_TributaryS x3 ≤ 1048576) : z_IntSS (GA x1 x2 x3).1 ≤ 1048576 ∧ z_IntS (GA x1 x2 x3).2.1 ≤ 1048576 := by
  unfold GA
  rcases bt (lks x1 x2) with e1 | e1
  · rcases bt (tribs x3 x2) with e2 | e2
    · simp only [e1, e2, Bool.and_self, if_true]
      have h1 := paths_z (links := x1) (fun F hF t => (fit_in hF t).1) x3 (caps x1) (by simp [caps])
      have h2 := rest_len (links := x1) x3 (caps x1)
      have h3 := (tr_good e2).1
      have h4 : (caps x1).length = x1.length := by simp [caps]
      unfold z_LinkS at z1
      refine ⟨by omega, ?_⟩
      unfold z_IntS
      rw [h2, h4]; omega
    · simp [e1, e2, z_IntSS, z_IntS]
  · simp [e1, z_IntSS, z_IntS]
end Vs

namespace Vs
open Go
theorem subT_len {α : Type} {xs : List α} {n : Nat} (h : xs.length = n) : subT xs 0 n = xs := by subst h; exact subT_all xs
theorem p_FnExactGroomAll (x1 : List TLink) (x2 : Int) (x3 : List TTributary) (o1 : ok_LinkS x1) (o3 : ok_TributaryS x3) : M_laws_FnExactGroomAll x1 x2 x3 = some true := by
  unfold M_laws_FnExactGroomAll
  rw [p_szLinkS x1 _ (by omega) (by omega) o1]
  simp only [Option.bind_some]
  by_cases hc1 : (1048576 : Int) - z_LinkS x1 < 0
  · simp [hc1]
  simp only [hc1, if_false, decide_false, cond_false]
  rw [p_szTributaryS x3 _ (by omega) (by omega) o3]
  simp only [Option.bind_some]
  by_cases hc2 : (1048576 : Int) - z_LinkS x1 - z_TributaryS x3 < 0
  · simp [hc2]
  simp only [hc2, if_false, decide_false, cond_false]
  have z1 : z_LinkS x1 ≤ 1048576 := by omega
  have z3 : z_TributaryS x3 ≤ 1048576 := by omega
  have zr := zr_GroomAll x1 x2 x3 z1 z3
  obtain ⟨zr1, zr2⟩ := zr
  have w1 := w_le_LinkS x1
  have f1 := markL_fst mk_LinkS w_LinkS hw_LinkS x1 1
  have m1 := p_markLinkS x1 1 (by omega) (by omega) z1
  have n1 : decide ((markL mk_LinkS 1 x1).1 < 0) = false := decide_eq_false (by omega)
  have w2 := w_le_TributaryS x3
  have f2 := markL_fst mk_TributaryS w_TributaryS hw_TributaryS x3 ((markL mk_LinkS 1 x1).1)
  have m2 := p_markTributaryS x3 ((markL mk_LinkS 1 x1).1) (by omega) (by omega) z3
  have n2 : decide ((markL mk_TributaryS ((markL mk_LinkS 1 x1).1) x3).1 < 0) = false := decide_eq_false (by omega)
  have w3 := w_le_IntSS (GA x1 x2 x3).1
  have f3 := markL_fst mk_IntSS w_IntSS hw_IntSS (GA x1 x2 x3).1 1
  have m3 := p_markIntSS (GA x1 x2 x3).1 1 (by omega) (by omega) zr1
  have n3 : decide ((markL mk_IntSS 1 (GA x1 x2 x3).1).1 < 0) = false := decide_eq_false (by omega)
  have w4 := w_le_IntS (GA x1 x2 x3).2.1
  have f4 := markL_fst mk_IntS w_IntS hw_IntS (GA x1 x2 x3).2.1 ((markL mk_IntSS 1 (GA x1 x2 x3).1).1)
  have m4 := p_markIntS (GA x1 x2 x3).2.1 ((markL mk_IntSS 1 (GA x1 x2 x3).1).1) (by omega) (by omega) zr2
  have n4 : decide ((markL mk_IntS ((markL mk_IntSS 1 (GA x1 x2 x3).1).1) (GA x1 x2 x3).2.1).1 < 0) = false := decide_eq_false (by omega)
  have grZ36 := p_heldIntSS (GA x1 x2 x3).1 1 (by omega) (by omega) zr1
  have grZ40 := p_heldIntS (GA x1 x2 x3).2.1 ((markL mk_IntSS 1 (GA x1 x2 x3).1).1) (by omega) (by omega) zr2
  have grZ52 := p_heldIntSS (GA x1 x2 x3).1 1 (by omega) (by omega) zr1
  have grZ54 := p_heldIntS (GA x1 x2 x3).2.1 ((markL mk_IntSS 1 (GA x1 x2 x3).1).1) (by omega) (by omega) zr2
  simp only [p_spec_GroomAll x1 x2 x3 z1 z3, p_impl_GroomAll x1 x2 x3 z1 z3, p_toLinkS x1 z1, p_toTributaryS x3 z3, p_eqIntSS ((GA x1 x2 x3).1) zr1, p_eqIntS ((GA x1 x2 x3).2.1) zr2, p_eqLinkS x1 z1, p_eqTributaryS x3 z3, m1, n1, m2, n2, m3, n3, m4, n4, subT_len (markL_len mk_IntSS (GA x1 x2 x3).1 1), grZ36, subT_len (markL_len mk_IntS (GA x1 x2 x3).2.1 ((markL mk_IntSS 1 (GA x1 x2 x3).1).1)), grZ40, grZ52, grZ54, Option.bind_some, Bool.not_true, beq_self_eq_true, bnd, bne_self_eq_false, cond_false, cond_true]
end Vs

namespace Vs
open Go
theorem exists_map {α : Type} (e : α → AV) (p : α → Prop) : ∀ (xs : List AV), (∀ x ∈ xs, ∃ t, x = e t ∧ p t) → ∃ ts : List α, xs = ts.map e ∧ ∀ t ∈ ts, p t
  | [], _ => ⟨[], rfl, by simp⟩
  | x :: xs, h => by
    obtain ⟨t, h1, h2⟩ := h x (by simp)
    obtain ⟨ts, h3, h4⟩ := exists_map e p xs fun y hy => h y (by simp [hy])
    exact ⟨t :: ts, by simp [h1, h3], fun s hs => by
      rcases List.mem_cons.1 hs with rfl | hs
      · exact h2
      · exact h4 s hs⟩
theorem FitsL_cons {l : Lf} {ls : List Lf} : ∀ {al : List AV}, FitsL (l :: ls) al → ∃ a al', al = a :: al' ∧ Fits l a ∧ FitsL ls al'
  | a :: al, h => ⟨a, al, rfl, h.1, h.2⟩
  | [], h => h.elim
theorem FitsL_nil : ∀ {al : List AV}, FitsL [] al → al = []
  | [], _ => rfl
  | _ :: _, h => h.elim
theorem i64_of_wf {n : Int} (h : (Lit.int .i64 n).wf = true) : I64 n := by
  simpa [Lit.wf, IntKind.min, IntKind.max, IntKind.signed, IntKind.bits, I64] using h
theorem Fits_i64 {a : AV} (h : Fits (.int .i64) a) : ∃ n, a = .i n ∧ I64 n := by
  obtain ⟨n, h1, h2⟩ := h
  exact ⟨n, h1, i64_of_wf h2⟩
theorem rec3 {α : Type} (e : α → AV) (mk : Int → Int → Int → α) (he : ∀ a b c, e (mk a b c) = .agg [.i a, .i b, .i c]) {y : AV} (h : FitsA (false, [.sl true [.int .i64, .int .i64, .int .i64]]) y) : ∃ ts : List α, y = .lst .o 3 (ts.map e) ∧ ts.length ≤ maxLen := by
  obtain ⟨⟨xs, rfl, hl, hx⟩, _⟩ := h.2 rfl
  obtain ⟨ts, rfl, _⟩ := exists_map e (fun _ => True) xs fun x hxm => by
    obtain ⟨cs, rfl, hc⟩ := (hx x hxm).1 rfl
    obtain ⟨_, _, rfl, f1, hc⟩ := FitsL_cons hc
    obtain ⟨_, _, rfl, f2, hc⟩ := FitsL_cons hc
    obtain ⟨_, _, rfl, f3, hc⟩ := FitsL_cons hc
    obtain rfl := FitsL_nil hc
    obtain ⟨a, rfl, _⟩ := Fits_i64 f1
    obtain ⟨b, rfl, _⟩ := Fits_i64 f2
    obtain ⟨c, rfl, _⟩ := Fits_i64 f3
    exact ⟨mk a b c, (he a b c).symm, trivial⟩
  rw [List.length_map] at hl
  exact ⟨ts, rfl, hl⟩
theorem ints {y : AV} (h : FitsA (false, [.sl false [.int .i64]]) y) : ∃ ts : List Int, y = .lst .o 1 (ts.map AV.i) ∧ ts.length ≤ maxLen := by
  obtain ⟨⟨xs, rfl, hl, hx⟩, _⟩ := h.2 rfl
  obtain ⟨ts, rfl, _⟩ := exists_map AV.i (fun _ => True) xs fun x hxm => by
    obtain ⟨a, rfl, _⟩ := Fits_i64 ((hx x hxm).2 rfl).1
    exact ⟨a, rfl, trivial⟩
  rw [List.length_map] at hl
  exact ⟨ts, rfl, hl⟩
theorem one3 {α : Type} (e : α → AV) (mk : Int → Int → Int → α) (he : ∀ a b c, e (mk a b c) = .agg [.i a, .i b, .i c]) {y : AV} (h : FitsA (true, [.int .i64, .int .i64, .int .i64]) y) : ∃ t : α, y = e t := by
  obtain ⟨cs, rfl, hc⟩ := h.1 rfl
  obtain ⟨_, _, rfl, f1, hc⟩ := FitsL_cons hc
  obtain ⟨_, _, rfl, f2, hc⟩ := FitsL_cons hc
  obtain ⟨_, _, rfl, f3, hc⟩ := FitsL_cons hc
  obtain rfl := FitsL_nil hc
  obtain ⟨a, rfl, _⟩ := Fits_i64 f1
  obtain ⟨b, rfl, _⟩ := Fits_i64 f2
  obtain ⟨c, rfl, _⟩ := Fits_i64 f3
  exact ⟨mk a b c, (he a b c).symm⟩
theorem int1 {y : AV} (h : FitsA (false, [.int .i64]) y) : ∃ n : Int, y = .i n := by
  obtain ⟨⟨n, rfl, _⟩, _⟩ := h.2 rfl
  exact ⟨n, rfl⟩
end Vs

