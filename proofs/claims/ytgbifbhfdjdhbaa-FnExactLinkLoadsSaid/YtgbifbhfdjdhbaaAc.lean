/-
  Part of the proof that the law FnExactLinkLoads returns true at every input; no condition beside the row's own.
-/
import Derived.Test.YtgbifbhfdjdhbaaFe
import Derived.Test.YtgbifbhfdjdhbaaAa
set_option linter.unusedSimpArgs false
set_option linter.unusedVariables false
namespace Vs
open Go
theorem p_toLink (x : TLink) : M_laws_toLink x = some x := by unfold M_laws_toLink; rfl
theorem p_eqLink (x : TLink) : M_laws_eqLink x x = some true := by unfold M_laws_eqLink; simp
theorem p_toTributary (x : TTributary) : M_laws_toTributary x = some x := by unfold M_laws_toTributary; rfl
theorem p_eqTributary (x : TTributary) : M_laws_eqTributary x x = some true := by unfold M_laws_eqTributary; simp
def z_LinkS (xs : (List TLink)) : Nat := xs.length
def ok_LinkS (xs : (List TLink)) : Prop := xs.length ≤ 9223372036854775807
theorem p_szLinkS (xs : (List TLink)) (l : Int) (h1 : 0 ≤ l) (h2 : l ≤ 1048576) (hs : ok_LinkS xs) : M_laws_szLinkS xs l = some (if l - z_LinkS xs < 0 then (-1 : Int) else l - z_LinkS xs) := by
  unfold M_laws_szLinkS
  unfold ok_LinkS at hs
  rw [w64_eq (by omega) (by omega)]
  simp only [cond_ite, decide_eq_true_eq]
  by_cases h : l - (xs.length : Int) < 0
  · rw [if_pos h, if_pos (show l - (z_LinkS xs : Int) < 0 from h)]
  · rw [if_neg h, if_neg (show ¬ l - (z_LinkS xs : Int) < 0 from h)]; rfl
theorem p_toLinkS (xs : (List TLink)) (hl : z_LinkS xs ≤ 1048576) : M_laws_toLinkS xs = some xs := by
  unfold M_laws_toLinkS
  have hlen : xs.length ≤ 1048576 := by unfold z_LinkS at hl; omega
  have key := fun l0 (h0 : l0.length = xs.length) => iter_copy (f := M_laws_toLinkSL1 xs) xs id l0 h0 (fun i l x y hx hy hll => by
    have hlt := (List.getElem?_eq_some_iff.1 hx).1
    have h1 : decide ((i : Int) < xs.length) = true := by simp [hlt]
    have h2 : (0 ≤ (i : Int) ∧ (i : Int) < (l.length : Int)) := by omega
    have hto : M_laws_toLink x = some x := p_toLink x
    simp only [M_laws_toLinkSL1, h1, cond_true, geti_nat, hx, Option.bind_some, grd_t h2, Int.toNat_natCast, hy, hto, bnd, id]
    rw [w64_eq (by omega) (by omega)]; rfl) (fun l => by simp [M_laws_toLinkSL1]) (by omega)
  rw [grd_t (by omega)]
  simp only [Option.bind_some, bnd]
  rw [key _ (by simp)]; simp
theorem p_eqLinkS (xs : (List TLink)) (hl : z_LinkS xs ≤ 1048576) : M_laws_eqLinkS xs xs = some true := by
  unfold M_laws_eqLinkS
  have hlen : xs.length ≤ 1048576 := by unfold z_LinkS at hl; omega
  rw [eq_loop (f := M_laws_eqLinkSL1 xs xs) xs (fun i x hx => by
    have hlt := (List.getElem?_eq_some_iff.1 hx).1
    have h1 : decide ((i : Int) < xs.length) = true := by simp [hlt]
    have he : M_laws_eqLink x x = some true := p_eqLink x
    simp only [M_laws_eqLinkSL1, h1, cond_true, geti_nat, hx, Option.bind_some, he, Bool.not_true, cond_false]
    rw [w64_eq (by omega) (by omega)]; rfl) (by simp [M_laws_eqLinkSL1]) (by omega)]
  simp
def z_TributaryS (xs : (List TTributary)) : Nat := xs.length
def ok_TributaryS (xs : (List TTributary)) : Prop := xs.length ≤ 9223372036854775807
theorem p_szTributaryS (xs : (List TTributary)) (l : Int) (h1 : 0 ≤ l) (h2 : l ≤ 1048576) (hs : ok_TributaryS xs) : M_laws_szTributaryS xs l = some (if l - z_TributaryS xs < 0 then (-1 : Int) else l - z_TributaryS xs) := by
  unfold M_laws_szTributaryS
  unfold ok_TributaryS at hs
  rw [w64_eq (by omega) (by omega)]
  simp only [cond_ite, decide_eq_true_eq]
  by_cases h : l - (xs.length : Int) < 0
  · rw [if_pos h, if_pos (show l - (z_TributaryS xs : Int) < 0 from h)]
  · rw [if_neg h, if_neg (show ¬ l - (z_TributaryS xs : Int) < 0 from h)]; rfl
theorem p_toTributaryS (xs : (List TTributary)) (hl : z_TributaryS xs ≤ 1048576) : M_laws_toTributaryS xs = some xs := by
  unfold M_laws_toTributaryS
  have hlen : xs.length ≤ 1048576 := by unfold z_TributaryS at hl; omega
  have key := fun l0 (h0 : l0.length = xs.length) => iter_copy (f := M_laws_toTributarySL1 xs) xs id l0 h0 (fun i l x y hx hy hll => by
    have hlt := (List.getElem?_eq_some_iff.1 hx).1
    have h1 : decide ((i : Int) < xs.length) = true := by simp [hlt]
    have h2 : (0 ≤ (i : Int) ∧ (i : Int) < (l.length : Int)) := by omega
    have hto : M_laws_toTributary x = some x := p_toTributary x
    simp only [M_laws_toTributarySL1, h1, cond_true, geti_nat, hx, Option.bind_some, grd_t h2, Int.toNat_natCast, hy, hto, bnd, id]
    rw [w64_eq (by omega) (by omega)]; rfl) (fun l => by simp [M_laws_toTributarySL1]) (by omega)
  rw [grd_t (by omega)]
  simp only [Option.bind_some, bnd]
  rw [key _ (by simp)]; simp
theorem p_eqTributaryS (xs : (List TTributary)) (hl : z_TributaryS xs ≤ 1048576) : M_laws_eqTributaryS xs xs = some true := by
  unfold M_laws_eqTributaryS
  have hlen : xs.length ≤ 1048576 := by unfold z_TributaryS at hl; omega
  rw [eq_loop (f := M_laws_eqTributarySL1 xs xs) xs (fun i x hx => by
    have hlt := (List.getElem?_eq_some_iff.1 hx).1
    have h1 : decide ((i : Int) < xs.length) = true := by simp [hlt]
    have he : M_laws_eqTributary x x = some true := p_eqTributary x
    simp only [M_laws_eqTributarySL1, h1, cond_true, geti_nat, hx, Option.bind_some, he, Bool.not_true, cond_false]
    rw [w64_eq (by omega) (by omega)]; rfl) (by simp [M_laws_eqTributarySL1]) (by omega)]
  simp
def z_IntS (xs : (List Int)) : Nat := xs.length
def ok_IntS (xs : (List Int)) : Prop := xs.length ≤ 9223372036854775807
theorem p_szIntS (xs : (List Int)) (l : Int) (h1 : 0 ≤ l) (h2 : l ≤ 1048576) (hs : ok_IntS xs) : M_laws_szIntS xs l = some (if l - z_IntS xs < 0 then (-1 : Int) else l - z_IntS xs) := by
  unfold M_laws_szIntS
  unfold ok_IntS at hs
  rw [w64_eq (by omega) (by omega)]
  simp only [cond_ite, decide_eq_true_eq]
  by_cases h : l - (xs.length : Int) < 0
  · rw [if_pos h, if_pos (show l - (z_IntS xs : Int) < 0 from h)]
  · rw [if_neg h, if_neg (show ¬ l - (z_IntS xs : Int) < 0 from h)]; rfl
theorem p_toIntS (xs : (List Int)) (hl : z_IntS xs ≤ 1048576) : M_laws_toIntS xs = some xs := by
  unfold M_laws_toIntS
  have hlen : xs.length ≤ 1048576 := by unfold z_IntS at hl; omega
  have key := fun l0 (h0 : l0.length = xs.length) => iter_copy (f := M_laws_toIntSL1 xs) xs id l0 h0 (fun i l x y hx hy hll => by
    have hlt := (List.getElem?_eq_some_iff.1 hx).1
    have h1 : decide ((i : Int) < xs.length) = true := by simp [hlt]
    have h2 : (0 ≤ (i : Int) ∧ (i : Int) < (l.length : Int)) := by omega
    simp only [M_laws_toIntSL1, h1, cond_true, geti_nat, hx, Option.bind_some, grd_t h2, Int.toNat_natCast, hy, bnd, id]
    rw [w64_eq (by omega) (by omega)]; rfl) (fun l => by simp [M_laws_toIntSL1]) (by omega)
  rw [grd_t (by omega)]
  simp only [Option.bind_some, bnd]
  rw [key _ (by simp)]; simp
theorem p_eqIntS (xs : (List Int)) (hl : z_IntS xs ≤ 1048576) : M_laws_eqIntS xs xs = some true := by
  unfold M_laws_eqIntS
  have hlen : xs.length ≤ 1048576 := by unfold z_IntS at hl; omega
  rw [eq_loop (f := M_laws_eqIntSL1 xs xs) xs (fun i x hx => by
    have hlt := (List.getElem?_eq_some_iff.1 hx).1
    have h1 : decide ((i : Int) < xs.length) = true := by simp [hlt]
    simp only [M_laws_eqIntSL1, h1, cond_true, geti_nat, hx, Option.bind_some, bne_self_eq_false, cond_false]
    rw [w64_eq (by omega) (by omega)]; rfl) (by simp [M_laws_eqIntSL1]) (by omega)]
  simp
def z_IntSS (xs : (List (List Int))) : Nat := xs.length + (xs.map fun x => z_IntS x).sum
def ok_IntSS (xs : (List (List Int))) : Prop := xs.length ≤ 9223372036854775807 ∧ ∀ x ∈ xs, ok_IntS x
theorem p_szIntSS (xs : (List (List Int))) (l : Int) (h1 : 0 ≤ l) (h2 : l ≤ 1048576) (hs : ok_IntSS xs) : M_laws_szIntSS xs l = some (if l - z_IntSS xs < 0 then (-1 : Int) else l - z_IntSS xs) := by
  unfold M_laws_szIntSS
  have hs1 := hs.1
  rw [w64_eq (by omega) (by omega)]
  simp only [cond_ite, decide_eq_true_eq]
  by_cases h : l - (xs.length : Int) < 0
  · rw [if_pos h, if_pos (by unfold z_IntSS; omega)]
  · rw [if_neg h, sz_loop (f := M_laws_szIntSSL1 xs) xs (fun x => z_IntS x) (fun i x l' hx h3 h4 => by
      have hlt := (List.getElem?_eq_some_iff.1 hx).1
      have h1 : decide ((i : Int) < xs.length) = true := by simp [hlt]
      simp only [M_laws_szIntSSL1, h1, cond_true, geti_nat, hx, Option.bind_some, p_szIntS x l' h3 h4 (hs.2 x (List.mem_of_getElem? hx)), cond_ite, decide_eq_true_eq]
      rw [w64_eq (by omega) (by omega)]
      by_cases h5 : l' - (z_IntS x : Int) < 0
      · simp only [if_pos h5, if_true, Int.reduceNeg, Int.reduceLT]
      · simp only [if_neg h5, if_true]; rfl) (fun l => by simp [M_laws_szIntSSL1]) _ (by omega) (by omega) (by omega)]
    have e : l - (xs.length : Int) - ((xs.map fun x => z_IntS x).sum : Nat) = l - (z_IntSS xs : Int) := by unfold z_IntSS; omega
    rw [e]
    by_cases h5 : l - (z_IntSS xs : Int) < 0
    · simp only [if_pos h5, Option.bind_some]
    · simp only [if_neg h5, Option.bind_some]
theorem p_toIntSS (xs : (List (List Int))) (hl : z_IntSS xs ≤ 1048576) : M_laws_toIntSS xs = some xs := by
  unfold M_laws_toIntSS
  have hlen : xs.length ≤ 1048576 := by unfold z_IntSS at hl; omega
  have key := fun l0 (h0 : l0.length = xs.length) => iter_copy (f := M_laws_toIntSSL1 xs) xs id l0 h0 (fun i l x y hx hy hll => by
    have hlt := (List.getElem?_eq_some_iff.1 hx).1
    have h1 : decide ((i : Int) < xs.length) = true := by simp [hlt]
    have h2 : (0 ≤ (i : Int) ∧ (i : Int) < (l.length : Int)) := by omega
    have hto : M_laws_toIntS x = some x := p_toIntS x (by have := sum_ge (fun x => z_IntS x) hx; unfold z_IntSS at hl; omega)
    simp only [M_laws_toIntSSL1, h1, cond_true, geti_nat, hx, Option.bind_some, grd_t h2, Int.toNat_natCast, hy, hto, bnd, id]
    rw [w64_eq (by omega) (by omega)]; rfl) (fun l => by simp [M_laws_toIntSSL1]) (by omega)
  rw [grd_t (by omega)]
  simp only [Option.bind_some, bnd]
  rw [key _ (by simp)]; simp
theorem p_eqIntSS (xs : (List (List Int))) (hl : z_IntSS xs ≤ 1048576) : M_laws_eqIntSS xs xs = some true := by
  unfold M_laws_eqIntSS
  have hlen : xs.length ≤ 1048576 := by unfold z_IntSS at hl; omega
  rw [eq_loop (f := M_laws_eqIntSSL1 xs xs) xs (fun i x hx => by
    have hlt := (List.getElem?_eq_some_iff.1 hx).1
    have h1 : decide ((i : Int) < xs.length) = true := by simp [hlt]
    have he : M_laws_eqIntS x x = some true := p_eqIntS x (by have := sum_ge (fun x => z_IntS x) hx; unfold z_IntSS at hl; omega)
    simp only [M_laws_eqIntSSL1, h1, cond_true, geti_nat, hx, Option.bind_some, he, Bool.not_true, cond_false]
    rw [w64_eq (by omega) (by omega)]; rfl) (by simp [M_laws_eqIntSSL1]) (by omega)]
  simp
def mk_LinkS (k : Int) (_ : TLink) : Int × TLink := (k + 3, ⟨k, k + 1, k + 2⟩)
def w_LinkS (_ : TLink) : Nat := 3
theorem hw_LinkS (k : Int) (x : TLink) : (mk_LinkS k x).1 = k + (w_LinkS x : Int) := rfl
theorem w_le_LinkS (xs : (List TLink)) : (xs.map w_LinkS).sum ≤ 16 * z_LinkS xs := by
  unfold z_LinkS
  induction xs with
  | nil => simp
  | cons x xs ih => simp only [List.map_cons, List.sum_cons, List.length_cons, w_LinkS] at ih ⊢; omega
theorem p_markLinkS (xs : (List TLink)) (k0 : Int) (hk : 0 ≤ k0) (hK : k0 + ((xs.map w_LinkS).sum : Nat) ≤ 1000000000000) (hl : z_LinkS xs ≤ 1048576) : M_laws_markLinkSM1 k0 xs = some (markL mk_LinkS k0 xs) := by
  unfold M_laws_markLinkSM1
  have hlen : xs.length ≤ 1048576 := by unfold z_LinkS at hl; omega
  rw [mark_loop (f := M_laws_markLinkSM1L1) xs mk_LinkS w_LinkS hw_LinkS 1000000000000 (fun i x k l hll hi hx hli h0 hK2 => by
    have hw1 : w_LinkS x = w_LinkS x := rfl
    have h1 : decide ((i : Int) < (l.length : Int)) = true := decide_eq_true (by omega)
    have h2 : 0 ≤ (i : Int) ∧ (i : Int) < (l.length : Int) := by omega
    simp only [M_laws_markLinkSM1L1, h1, cond_true, grd_t h2, Option.bind_some, Int.toNat_natCast, hli, bnd, List.getElem?_set_self (show i < l.length by omega), List.set_set]
    rw [w64_eq (n := k + 1) (by unfold w_LinkS at hK2; omega) (by unfold w_LinkS at hK2; omega), w64_eq (n := k + 1 + 1) (by unfold w_LinkS at hK2; omega) (by unfold w_LinkS at hK2; omega), w64_eq (n := k + 1 + 1 + 1) (by unfold w_LinkS at hK2; omega) (by unfold w_LinkS at hK2; omega), w64_eq (n := (i : Int) + 1) (by unfold w_LinkS at hK2; omega) (by unfold w_LinkS at hK2; omega)]
    simp only [Int.add_assoc, Int.reduceAdd, mk_LinkS]
    rfl) (fun k l hll => by simp [M_laws_markLinkSM1L1, hll]) k0 hk hK (by omega)]
  rfl
def mk_TributaryS (k : Int) (_ : TTributary) : Int × TTributary := (k + 3, ⟨k, k + 1, k + 2⟩)
def w_TributaryS (_ : TTributary) : Nat := 3
theorem hw_TributaryS (k : Int) (x : TTributary) : (mk_TributaryS k x).1 = k + (w_TributaryS x : Int) := rfl
theorem w_le_TributaryS (xs : (List TTributary)) : (xs.map w_TributaryS).sum ≤ 16 * z_TributaryS xs := by
  unfold z_TributaryS
  induction xs with
  | nil => simp
  | cons x xs ih => simp only [List.map_cons, List.sum_cons, List.length_cons, w_TributaryS] at ih ⊢; omega
theorem p_markTributaryS (xs : (List TTributary)) (k0 : Int) (hk : 0 ≤ k0) (hK : k0 + ((xs.map w_TributaryS).sum : Nat) ≤ 1000000000000) (hl : z_TributaryS xs ≤ 1048576) : M_laws_markTributarySM1 k0 xs = some (markL mk_TributaryS k0 xs) := by
  unfold M_laws_markTributarySM1
  have hlen : xs.length ≤ 1048576 := by unfold z_TributaryS at hl; omega
  rw [mark_loop (f := M_laws_markTributarySM1L1) xs mk_TributaryS w_TributaryS hw_TributaryS 1000000000000 (fun i x k l hll hi hx hli h0 hK2 => by
    have hw1 : w_TributaryS x = w_TributaryS x := rfl
    have h1 : decide ((i : Int) < (l.length : Int)) = true := decide_eq_true (by omega)
    have h2 : 0 ≤ (i : Int) ∧ (i : Int) < (l.length : Int) := by omega
    simp only [M_laws_markTributarySM1L1, h1, cond_true, grd_t h2, Option.bind_some, Int.toNat_natCast, hli, bnd, List.getElem?_set_self (show i < l.length by omega), List.set_set]
    rw [w64_eq (n := k + 1) (by unfold w_TributaryS at hK2; omega) (by unfold w_TributaryS at hK2; omega), w64_eq (n := k + 1 + 1) (by unfold w_TributaryS at hK2; omega) (by unfold w_TributaryS at hK2; omega), w64_eq (n := k + 1 + 1 + 1) (by unfold w_TributaryS at hK2; omega) (by unfold w_TributaryS at hK2; omega), w64_eq (n := (i : Int) + 1) (by unfold w_TributaryS at hK2; omega) (by unfold w_TributaryS at hK2; omega)]
    simp only [Int.add_assoc, Int.reduceAdd, mk_TributaryS]
    rfl) (fun k l hll => by simp [M_laws_markTributarySM1L1, hll]) k0 hk hK (by omega)]
  rfl
def mk_IntS (k : Int) (_ : Int) : Int × Int := (k + 1, k)
def w_IntS (_ : Int) : Nat := 1
theorem hw_IntS (k : Int) (x : Int) : (mk_IntS k x).1 = k + (w_IntS x : Int) := rfl
theorem w_le_IntS (xs : (List Int)) : (xs.map w_IntS).sum ≤ 16 * z_IntS xs := by
  unfold z_IntS
  induction xs with
  | nil => simp
  | cons x xs ih => simp only [List.map_cons, List.sum_cons, List.length_cons, w_IntS] at ih ⊢; omega
theorem p_markIntS (xs : (List Int)) (k0 : Int) (hk : 0 ≤ k0) (hK : k0 + ((xs.map w_IntS).sum : Nat) ≤ 1000000000000) (hl : z_IntS xs ≤ 1048576) : M_laws_markIntSM1 k0 xs = some (markL mk_IntS k0 xs) := by
  unfold M_laws_markIntSM1
  have hlen : xs.length ≤ 1048576 := by unfold z_IntS at hl; omega
  rw [mark_loop (f := M_laws_markIntSM1L1) xs mk_IntS w_IntS hw_IntS 1000000000000 (fun i x k l hll hi hx hli h0 hK2 => by
    have hw1 : w_IntS x = w_IntS x := rfl
    have h1 : decide ((i : Int) < (l.length : Int)) = true := decide_eq_true (by omega)
    have h2 : 0 ≤ (i : Int) ∧ (i : Int) < (l.length : Int) := by omega
    simp only [M_laws_markIntSM1L1, h1, cond_true, grd_t h2, Option.bind_some, Int.toNat_natCast, hli, bnd]
    rw [w64_eq (n := k + 1) (by unfold w_IntS at hK2; omega) (by unfold w_IntS at hK2; omega), w64_eq (n := (i : Int) + 1) (by unfold w_IntS at hK2; omega) (by unfold w_IntS at hK2; omega)]
    rfl) (fun k l hll => by simp [M_laws_markIntSM1L1, hll]) k0 hk hK (by omega)]
  rfl
theorem p_heldIntS (xs : (List Int)) (k0 : Int) (hk : 0 ≤ k0) (hK : k0 + ((xs.map w_IntS).sum : Nat) ≤ 1000000000000) (hl : z_IntS xs ≤ 1048576) : M_laws_heldIntS (markL mk_IntS k0 xs).2 k0 = some (markL mk_IntS k0 xs).1 := by
  unfold M_laws_heldIntS
  have hlen : xs.length ≤ 1048576 := by unfold z_IntS at hl; omega
  rw [held_loop (f := M_laws_heldIntSL1 (markL mk_IntS k0 xs).2) xs mk_IntS w_IntS hw_IntS 1000000000000 k0 (fun i x k hx hm h0 hK2 => by
    have hi := (List.getElem?_eq_some_iff.1 hx).1
    have h1 : decide ((i : Int) < ((markL mk_IntS k0 xs).2.length : Int)) = true := decide_eq_true (by rw [markL_len]; omega)
    simp only [M_laws_heldIntSL1, h1, cond_true, geti_nat, hm, Option.bind_some, mk_IntS, bne_self_eq_false, cond_false]
    rw [w64_eq (n := k + 1) (by unfold w_IntS at hK2; omega) (by unfold w_IntS at hK2; omega), w64_eq (n := (i : Int) + 1) (by unfold w_IntS at hK2; omega) (by unfold w_IntS at hK2; omega)]
    rfl) (fun k => by simp [M_laws_heldIntSL1, markL_len]) hk hK (by omega)]
  rfl
def mk_IntSS (k : Int) (x : (List Int)) : Int × (List Int) := markL mk_IntS k x
def w_IntSS (x : (List Int)) : Nat := (x.map w_IntS).sum
theorem hw_IntSS (k : Int) (x : (List Int)) : (mk_IntSS k x).1 = k + (w_IntSS x : Int) := markL_fst mk_IntS w_IntS hw_IntS x k
theorem w_le_IntSS (xs : (List (List Int))) : (xs.map w_IntSS).sum ≤ 16 * z_IntSS xs := by
  unfold z_IntSS
  induction xs with
  | nil => simp
  | cons x xs ih =>
    have := w_le_IntS x
    simp only [List.map_cons, List.sum_cons, List.length_cons, w_IntSS] at ih ⊢
    omega
theorem p_markIntSS (xs : (List (List Int))) (k0 : Int) (hk : 0 ≤ k0) (hK : k0 + ((xs.map w_IntSS).sum : Nat) ≤ 1000000000000) (hl : z_IntSS xs ≤ 1048576) : M_laws_markIntSSM1 k0 xs = some (markL mk_IntSS k0 xs) := by
  unfold M_laws_markIntSSM1
  have hlen : xs.length ≤ 1048576 := by unfold z_IntSS at hl; omega
  rw [mark_loop (f := M_laws_markIntSSM1L1) xs mk_IntSS w_IntSS hw_IntSS 1000000000000 (fun i x k l hll hi hx hli h0 hK2 => by
    have hw1 : w_IntSS x = w_IntSS x := rfl
    have h1 : decide ((i : Int) < (l.length : Int)) = true := decide_eq_true (by omega)
    have h2 : 0 ≤ (i : Int) ∧ (i : Int) < (l.length : Int) := by omega
    have hb : z_IntS x ≤ 1048576 := by have := sum_ge (fun x => z_IntS x) hx; unfold z_IntSS at hl; omega
    simp only [M_laws_markIntSSM1L1, h1, cond_true, grd_t h2, Option.bind_some, Int.toNat_natCast, hli, bnd, p_markIntS x k h0 (by unfold w_IntSS at hK2; omega) hb]
    rw [w64_eq (n := (i : Int) + 1) (by omega) (by omega)]
    rfl) (fun k l hll => by simp [M_laws_markIntSSM1L1, hll]) k0 hk hK (by omega)]
  rfl
end Vs

namespace Vs
open Go
theorem p_IndexFunc_Tributary (xs : List TTributary) (f : TTributary → Option Bool) (p : TTributary → Bool) (hf : ∀ x, f x = some (p x)) (hl : xs.length < 2 ^ 62) : ∃ r, M_slices_IndexFunc_Tributary xs f = some r ∧ (decide (0 ≤ r) = xs.any p) := by
  obtain ⟨b, key, hb⟩ := iter_index (f := M_slices_IndexFunc_TributaryL1 xs f) xs p (fun i x hx => by
    have hlt := (List.getElem?_eq_some_iff.1 hx).1
    have h1 : decide ((i : Int) < xs.length) = true := by simp [hlt]
    simp only [M_slices_IndexFunc_TributaryL1, h1, cond_true, geti_nat, hx, hf, Option.bind_some]
    rw [w64_eq (by omega) (by omega)]
    rcases bt (p x) with e | e <;> simp [e]) (by simp [M_slices_IndexFunc_TributaryL1]) (by omega)
  unfold M_slices_IndexFunc_Tributary
  rw [key]
  rcases hb with ⟨rfl, h⟩ | ⟨k, rfl, h⟩
  · exact ⟨-1, rfl, by rw [h]; rfl⟩
  · exact ⟨k, rfl, by rw [h]; simp⟩
theorem p_ContainsFunc_Tributary (xs : List TTributary) (f : TTributary → Option Bool) (p : TTributary → Bool) (hf : ∀ x, f x = some (p x)) (hl : xs.length < 2 ^ 62) : M_slices_ContainsFunc_Tributary xs f = some (xs.any p) := by
  unfold M_slices_ContainsFunc_Tributary
  obtain ⟨r, h1, h2⟩ := p_IndexFunc_Tributary xs f p hf hl
  simp [h1, h2]
theorem p_IndexFunc_Link (xs : List TLink) (f : TLink → Option Bool) (p : TLink → Bool) (hf : ∀ x, f x = some (p x)) (hl : xs.length < 2 ^ 62) : ∃ r, M_slices_IndexFunc_Link xs f = some r ∧ (decide (0 ≤ r) = xs.any p) := by
  obtain ⟨b, key, hb⟩ := iter_index (f := M_slices_IndexFunc_LinkL1 xs f) xs p (fun i x hx => by
    have hlt := (List.getElem?_eq_some_iff.1 hx).1
    have h1 : decide ((i : Int) < xs.length) = true := by simp [hlt]
    simp only [M_slices_IndexFunc_LinkL1, h1, cond_true, geti_nat, hx, hf, Option.bind_some]
    rw [w64_eq (by omega) (by omega)]
    rcases bt (p x) with e | e <;> simp [e]) (by simp [M_slices_IndexFunc_LinkL1]) (by omega)
  unfold M_slices_IndexFunc_Link
  rw [key]
  rcases hb with ⟨rfl, h⟩ | ⟨k, rfl, h⟩
  · exact ⟨-1, rfl, by rw [h]; rfl⟩
  · exact ⟨k, rfl, by rw [h]; simp⟩
theorem p_ContainsFunc_Link (xs : List TLink) (f : TLink → Option Bool) (p : TLink → Bool) (hf : ∀ x, f x = some (p x)) (hl : xs.length < 2 ^ 62) : M_slices_ContainsFunc_Link xs f = some (xs.any p) := by
  unfold M_slices_ContainsFunc_Link
  obtain ⟨r, h1, h2⟩ := p_IndexFunc_Link xs f p hf hl
  simp [h1, h2]
end Vs

namespace Vs
open Go
def wi (x a b : Int) : Bool := decide (a ≤ x) && decide (x ≤ b)
theorem p_within (x a b : Int) : M_impl_within x a b = some (wi x a b) := by
  unfold M_impl_within wi; by_cases h : a ≤ x <;> simp [h]
theorem p_l1In (x a b : Int) : M_spec_l1In x a b = some (wi x a b) := by
  unfold M_spec_l1In wi; by_cases h : a ≤ x <;> simp [h]
def ends (a b n : Int) : Bool := wi a 0 (IntKind.wrap .i64 (n - 1)) && wi b 0 (IntKind.wrap .i64 (n - 1)) && a != b
theorem p_areEnds (a b n : Int) : M_impl_areEnds a b n = some (ends a b n) := by
  unfold M_impl_areEnds ends; simp only [p_within, Option.bind_some]
  cases wi a 0 (IntKind.wrap .i64 (n - 1)) <;> cases wi b 0 (IntKind.wrap .i64 (n - 1)) <;> simp
theorem p_l18Pair (a b n : Int) : M_spec_l18Pair a b n = some (ends a b n) := by
  unfold M_spec_l18Pair ends; simp only [p_l1In, Option.bind_some]
  cases wi a 0 (IntKind.wrap .i64 (n - 1)) <;> cases wi b 0 (IntKind.wrap .i64 (n - 1)) <;> simp
def trOk (n : Int) (t : TTributary) : Bool := ends t.From t.To n && wi t.Rate 1 1000
theorem p_IsValidTributaries_c1 (t : TTributary) (n : Int) : M_impl_IsValidTributaries_c1 t n = some (!trOk n t) := by
  unfold M_impl_IsValidTributaries_c1 trOk; simp only [p_areEnds, p_within, Option.bind_some]
  cases ends t.From t.To n <;> simp
def tribs (list : List TTributary) (n : Int) : Bool := wi n 2 8 && decide (list.length ≤ 12) && !list.any fun t => !trOk n t
theorem p_impl_IsValidTributaries (xs : List TTributary) (n : Int) (hl : xs.length < 2 ^ 62) : M_impl_IsValidTributaries xs n = some (tribs xs n) := by
  unfold M_impl_IsValidTributaries tribs
  simp only [p_within, Option.bind_some, p_ContainsFunc_Tributary xs (fun x0 => M_impl_IsValidTributaries_c1 x0 n) (fun t => !trOk n t) (fun x => p_IsValidTributaries_c1 x n) hl]
  have : decide ((xs.length : Int) ≤ 12) = decide (xs.length ≤ 12) := by simp; omega
  rw [this]
  cases wi n 2 8 <;> cases decide (xs.length ≤ 12) <;> simp
theorem bounded_all {α : Type} {f : Int → Option (Int ⊕ (Unit ⊕ Bool))} (xs : List α) (p : α → Bool)
    (step : ∀ (i : Nat) x, xs[i]? = some x → f i = some (if i ≤ 12 then (if !p x then .inr (.inr false) else .inl ((i + 1 : Nat) : Int)) else .inr (.inl ())))
    (h2 : f xs.length = some (.inr (.inl ()))) (hl : xs.length < 18446744073709551615) :
    ∃ b, iter f N0 0 = some b ∧ (b = .inr false ∧ (xs.any fun t => !p t) = true ∨ b = .inl () ∧ (xs.length ≤ 13 → (xs.any fun t => !p t) = false)) := by
  have key : iter f N0 0 = some (walkL (fun i x (_ : Unit) => if i ≤ 12 then (if !p x then Sum.inr (Sum.inr false) else .inl ()) else .inr (.inl ())) (fun _ => Sum.inl ()) 0 xs ()) := by
    refine iter_list xs (fun i (_ : Unit) => (i : Int)) _ _ (fun _ _ => True) (fun i a x hx _ => ?_) (fun a _ => h2) () trivial hl
    rw [step i x hx]
    by_cases h2 : i ≤ 12
    · rcases bt (p x) with e | e
      · exact .inl ⟨(), by simp [h2, e], trivial, by simp [h2, e]⟩
      · exact .inr ⟨_, by simp [h2, e]; rfl, by simp [h2, e]⟩
    · exact .inr ⟨_, by simp [h2]; rfl, by simp [h2]⟩
  refine ⟨_, key, ?_⟩
  have gen : ∀ (ys : List α) (i : Nat), walkL (fun i x (_ : Unit) => if i ≤ 12 then (if !p x then Sum.inr (Sum.inr false) else .inl ()) else .inr (.inl ())) (fun _ => (Sum.inl () : Unit ⊕ Bool)) i ys () = .inr false ∧ (ys.any fun t => !p t) = true ∨
      walkL (fun i x (_ : Unit) => if i ≤ 12 then (if !p x then Sum.inr (Sum.inr false) else .inl ()) else .inr (.inl ())) (fun _ => (Sum.inl () : Unit ⊕ Bool)) i ys () = .inl () ∧ (i + ys.length ≤ 13 → (ys.any fun t => !p t) = false) := by
    intro ys
    induction ys with
    | nil => intro i; right; simp [walkL]
    | cons y ys ih =>
      intro i
      simp only [walkL, List.any_cons, List.length_cons]
      by_cases h2 : i ≤ 12
      · rcases bt (p y) with h | h
        · simp only [h2, h, if_true, Bool.not_true, Bool.false_eq_true, if_false, Bool.false_or]
          rcases ih (i + 1) with ⟨a, b⟩ | ⟨a, b⟩
          · exact .inl ⟨a, b⟩
          · exact .inr ⟨a, fun h => b (by omega)⟩
        · left; simp [h2, h]
      · right; simp only [h2, if_false]; exact ⟨trivial, fun h => by omega⟩
  rcases gen xs 0 with h | ⟨h, h'⟩
  · exact .inl h
  · exact .inr ⟨h, fun e => h' (by omega)⟩
theorem p_spec_IsValidTributaries (xs : List TTributary) (n : Int) (hl : xs.length < 2 ^ 62) : M_spec_l18Good xs n = some (tribs xs n) := by
  unfold M_spec_l18Good
  obtain ⟨b, key, hb⟩ := bounded_all (f := M_spec_l18GoodL1 xs n) xs (trOk n) (fun i x hx => by
    have hlt := (List.getElem?_eq_some_iff.1 hx).1
    simp only [M_spec_l18GoodL1, geti_nat, hx, Option.bind_some, p_l18Pair, p_l1In, trOk]
    have h1 : decide ((i : Int) < xs.length) = true := by simp [hlt]
    rw [h1]
    by_cases h2 : i ≤ 12
    · have : decide ((i : Int) ≤ 12) = true := by simp; omega
      simp only [cond_true, Option.bind_some, this, h2, if_true]
      rw [w64_eq (by omega) (by omega)]
      rcases bt (ends x.From x.To n) with e1 | e1 <;> rcases bt (wi x.Rate 1 1000) with e2 | e2 <;> simp [e1, e2]
    · have : decide ((i : Int) ≤ 12) = false := by simp; omega
      simp [this, h2]) (by simp [M_spec_l18GoodL1]) (by omega)
  rw [key]
  have hd : decide ((xs.length : Int) ≤ 12) = decide (xs.length ≤ 12) := by simp; omega
  rcases hb with ⟨rfl, h2⟩ | ⟨rfl, h2⟩
  · simp [tribs, h2]
  · simp only [Option.bind_some, p_l1In, tribs, hd]
    by_cases h3 : xs.length ≤ 12
    · rw [h2 (by omega)]; cases wi n 2 8 <;> simp [h3]
    · cases wi n 2 8 <;> simp [h3]
end Vs

namespace Vs
open Go
def lkOk (n : Int) (l : TLink) : Bool := ends l.A l.B n && wi l.Capacity 0 10000
theorem p_areLinks_c1 (l : TLink) (n : Int) : M_impl_areLinks_c1 l n = some (!lkOk n l) := by
  unfold M_impl_areLinks_c1 lkOk; simp only [p_areEnds, p_within, Option.bind_some]
  cases ends l.A l.B n <;> simp
def lks (list : List TLink) (n : Int) : Bool := wi n 2 8 && decide (list.length ≤ 12) && !list.any fun t => !lkOk n t
theorem p_areLinks (xs : List TLink) (n : Int) (hl : xs.length < 2 ^ 62) : M_impl_areLinks xs n = some (lks xs n) := by
  unfold M_impl_areLinks lks
  simp only [p_within, Option.bind_some, p_ContainsFunc_Link xs (fun x0 => M_impl_areLinks_c1 x0 n) (fun t => !lkOk n t) (fun x => p_areLinks_c1 x n) hl]
  have : decide ((xs.length : Int) ≤ 12) = decide (xs.length ≤ 12) := by simp; omega
  rw [this]
  cases wi n 2 8 <;> cases decide (xs.length ≤ 12) <;> simp
theorem p_l18Links (xs : List TLink) (n : Int) (hl : xs.length < 2 ^ 62) : M_spec_l18Links xs n = some (lks xs n) := by
  unfold M_spec_l18Links
  obtain ⟨b, key, hb⟩ := bounded_all (f := M_spec_l18LinksL1 xs n) xs (lkOk n) (fun i x hx => by
    have hlt := (List.getElem?_eq_some_iff.1 hx).1
    simp only [M_spec_l18LinksL1, geti_nat, hx, Option.bind_some, p_l18Pair, p_l1In, lkOk]
    have h1 : decide ((i : Int) < xs.length) = true := by simp [hlt]
    rw [h1]
    by_cases h2 : i ≤ 12
    · have : decide ((i : Int) ≤ 12) = true := by simp; omega
      simp only [cond_true, Option.bind_some, this, h2, if_true]
      rw [w64_eq (by omega) (by omega)]
      rcases bt (ends x.A x.B n) with e1 | e1 <;> rcases bt (wi x.Capacity 0 10000) with e2 | e2 <;> simp [e1, e2]
    · have : decide ((i : Int) ≤ 12) = false := by simp; omega
      simp [this, h2]) (by simp [M_spec_l18LinksL1]) (by omega)
  rw [key]
  have hd : decide ((xs.length : Int) ≤ 12) = decide (xs.length ≤ 12) := by simp; omega
  rcases hb with ⟨rfl, h2⟩ | ⟨rfl, h2⟩
  · simp [lks, h2]
  · simp only [Option.bind_some, p_l1In, lks, hd]
    by_cases h3 : xs.length ≤ 12
    · rw [h2 (by omega)]; cases wi n 2 8 <;> simp [h3]
    · cases wi n 2 8 <;> simp [h3]

/-! ### the search -/
end Vs

namespace Vs
open Go
theorem p_l1Has (l : List Int) (v : Int) (hl : l.length < 2 ^ 62) : M_spec_l1Has l v = some (l.contains v) := by
  unfold M_spec_l1Has
  have key := iter_any (f := M_spec_l1HasL1 l v) l (fun x => x == v) (.inr true) (.inl ()) (fun i x hx => by
    have hlt := (List.getElem?_eq_some_iff.1 hx).1
    have h1 : decide ((i : Int) < l.length) = true := by simp [hlt]
    simp only [M_spec_l1HasL1, h1, cond_true, geti_nat, hx, Option.bind_some]
    rw [w64_eq (by omega) (by omega)]
    rcases bt (x == v) with e | e <;> simp [e]) (by simp [M_spec_l1HasL1]) (by omega)
  rw [key]
  have e : l.contains v = l.any (fun x => x == v) := by
    rw [List.contains_eq_any_beq]; congr 1; funext x; exact Bool.beq_comm ..
  rw [e]
  rcases bt (l.any fun x => x == v) with h | h <;> simp [h]
theorem p_Contains_i (xs : List Int) (v : Int) (hl : xs.length ≤ 1048576) : M_slices_Contains_Lint_int xs v = some (xs.contains v) := by
  unfold M_slices_Contains_Lint_int M_slices_Index_Lint_int
  rw [iter_findI (f := M_slices_Index_Lint_intL1 xs v) xs (fun _ x => x == v) (fun i _ => (i : Int)) () (fun i x hx _ => by
    have hlt := (List.getElem?_eq_some_iff.1 hx).1
    have h1 : decide ((i : Int) < xs.length) = true := by simp [hlt]
    simp only [M_slices_Index_Lint_intL1, h1, cond_true, geti_nat, hx, Option.bind_some]
    rw [w64_eq (by omega) (by omega), show (v == x) = (x == v) from Bool.beq_comm ..]
    rcases bt (x == v) with e | e <;> simp only [e] <;> rfl) (by simp [M_slices_Index_Lint_intL1]) (by omega)]
  have e : xs.contains v = xs.any (fun x => x == v) := by
    rw [List.contains_eq_any_beq]; congr 1; funext x; exact Bool.beq_comm ..
  rw [e, ← anyI_any]
  cases e : findI (fun _ x => x == v) xs with
  | none =>
    have h : anyI (fun _ x => x == v) xs = false := anyI_false.2 (findI_none.1 e)
    rw [h]; rfl
  | some q =>
    obtain ⟨i, x⟩ := q
    obtain ⟨h1, h2, _⟩ := findI_some.1 e
    have h : anyI (fun _ x => x == v) xs = true := anyI_iff.2 ⟨i, x, h1, h2⟩
    rw [h]; simp
theorem slT_nat {α : Type} (xs : List α) (i : Nat) (h : i ≤ xs.length) : slT xs (i : Int) = some (xs.take i) := by
  unfold slT
  rw [if_pos ⟨by omega, by simpa using h⟩]; simp
/-! ### loads -/
def stepIn (m : Nat) (rate : Int) (path : List Int) (k : Nat) (x : Int) (out : List Int) : List Int ⊕ (List Int ⊕ (List Int × Bool)) :=
  if !wi x 0 ((m : Int) - 1) || (path.take k).contains x then .inr (.inr ([], false)) else .inl (out.set x.toNat (IntKind.wrap .i64 (out.getD x.toNat 0 + rate)))
def LLin (m : Nat) (rate : Int) (path out : List Int) : List Int ⊕ (List Int × Bool) := walkL (stepIn m rate path) Sum.inl 0 path out
def rateAt (list : List TTributary) (i : Nat) : Int := match list[i]? with | some t => t.Rate | none => 0
def stepOut (m : Nat) (list : List TTributary) (i : Nat) (path out : List Int) : List Int ⊕ (List Int ⊕ (List Int × Bool)) := match LLin m (rateAt list i) path out with
  | .inl o => .inl o
  | .inr r => .inr (.inr r)
def LLout (m : Nat) (list : List TTributary) (routes : List (List Int)) : List Int ⊕ (List Int × Bool) := walkL (stepOut m list) Sum.inl 0 routes (List.replicate m 0)
theorem walkL_keeps {α A B : Type} (step : Nat → α → A → A ⊕ B) (fin : A → B) (I : A → Prop) (J : B → Prop) (h : ∀ i x a, I a → match step i x a with | .inl a' => I a' | .inr b => J b) (hf : ∀ a, I a → J (fin a)) :
    ∀ (xs : List α) (i : Nat) (a : A), I a → J (walkL step fin i xs a)
  | [], i, a, ha => hf a ha
  | x :: xs, i, a, ha => by
    have := h i x a ha
    simp only [walkL]
    split
    · rename_i a' e; rw [e] at this; exact walkL_keeps step fin I J h hf xs (i + 1) a' this
    · rename_i b e; rw [e] at this; exact this
theorem LLin_len (m : Nat) (rate : Int) (path out : List Int) (ho : out.length = m) : match LLin m rate path out with | .inl o => o.length = m | .inr r => r = ([], false) := by
  refine walkL_keeps (stepIn m rate path) Sum.inl (fun o => o.length = m) (fun b => match b with | .inl o => o.length = m | .inr r => r = ([], false)) (fun i x a ha => ?_) (fun a ha => ha) path 0 out ho
  unfold stepIn
  split
  · rename_i a' e
    split at e
    · cases e
    · cases e; simpa using ha
  · rename_i b e
    split at e
    · cases e; rfl
    · cases e
theorem LLout_len (m : Nat) (list : List TTributary) (routes : List (List Int)) : match LLout m list routes with | .inl o => o.length = m | .inr r => r = ([], false) := by
  refine walkL_keeps (stepOut m list) Sum.inl (fun o => o.length = m) (fun b => match b with | .inl o => o.length = m | .inr r => r = ([], false)) (fun i x a ha => ?_) (fun a ha => ha) routes 0 _ (by simp)
  have := LLin_len m (rateAt list i) x a ha
  unfold stepOut
  split
  · rename_i a' e
    split at e
    · rename_i o e2; cases e; rw [e2] at this; exact this
    · cases e
  · rename_i b e
    split at e
    · cases e
    · rename_i r e2; cases e; rw [e2] at this; exact this
def LL (links : List TLink) (n : Int) (list : List TTributary) (routes : List (List Int)) : List Int × Bool :=
  if lks links n && tribs list n && decide (routes.length = list.length) then (match LLout links.length list routes with | .inl v => (v, true) | .inr r => r) else ([], false)
theorem lks12 {links : List TLink} {n : Int} (h : lks links n = true) : links.length ≤ 12 := by
  simp only [lks, Bool.and_eq_true, decide_eq_true_eq] at h; exact h.1.2
theorem tribs12 {ts : List TTributary} {n : Int} (h : tribs ts n = true) : ts.length ≤ 12 := by
  simp only [tribs, Bool.and_eq_true, decide_eq_true_eq] at h; exact h.1.2
theorem LL_len (links : List TLink) (n : Int) (list : List TTributary) (routes : List (List Int)) : (LL links n list routes).1.length ≤ 12 := by
  unfold LL
  split
  · rename_i h
    simp only [Bool.and_eq_true] at h
    have h1 := lks12 h.1.1
    have := LLout_len links.length list routes
    split
    · rename_i v e; rw [e] at this; simp only at this ⊢; omega
    · rename_i r e; rw [e] at this; simp only at this; rw [this]; simp
  · simp
theorem get_in {out : List Int} {x : Int} (h0 : 0 ≤ x) (h1 : x < out.length) : out[x.toNat]? = some (out.getD x.toNat 0) := by
  have : x.toNat < out.length := by omega
  rw [List.getD_eq_getElem?_getD, List.getElem?_eq_getElem this]; rfl
theorem p_in_impl (links : List TLink) (list : List TTributary) (i : Nat) (s : List Int) (path out : List Int) (hl : links.length ≤ 12) (hp : path.length ≤ 1048576) (ho : out.length = links.length) (hi : i < list.length) :
    iter (M_impl_LinkLoadsL2 links list ((i : Int), s) path) N0 (0, out) = some (LLin links.length (rateAt list i) path out) := by
  have ht : list[i]? = some list[i] := List.getElem?_eq_getElem hi
  refine iter_list (f := M_impl_LinkLoadsL2 links list ((i : Int), s) path) path (fun k (a : List Int) => ((k : Int), a)) (stepIn links.length (rateAt list i) path) Sum.inl (fun _ a => a.length = links.length) (fun k a x hx ha => ?_) (fun a _ => by simp [M_impl_LinkLoadsL2]) out ho (by omega)
  have hlt := (List.getElem?_eq_some_iff.1 hx).1
  have h1 : decide ((k : Int) < path.length) = true := by simp [hlt]
  simp only [M_impl_LinkLoadsL2, h1, cond_true, geti_nat, hx, Option.bind_some, p_within, slT_nat path k (Nat.le_of_lt hlt), p_Contains_i (path.take k) x (by simp; omega)]
  rw [w64_eq (n := (links.length : Int) - 1) (by omega) (by omega), w64_eq (n := (k : Int) + 1) (by omega) (by omega)]
  unfold stepIn
  rcases bt (wi x 0 ((links.length : Int) - 1)) with e | e
  · rcases bt ((path.take k).contains x) with e2 | e2
    · exact .inr ⟨_, by simp only [e, e2]; rfl, by simp only [e, e2]; rfl⟩
    · have hw : 0 ≤ x ∧ x ≤ (links.length : Int) - 1 := by simpa [wi] using e
      refine .inl ⟨_, by simp only [e, e2]; rfl, by simpa using ha, ?_⟩
      have hg : grd (0 ≤ x ∧ x < (a.length : Int)) = some () := grd_t ⟨hw.1, by omega⟩
      simp only [e, e2, Bool.not_true, cond_false, Option.bind_some, hg, get_in hw.1 (show x < (a.length : Int) by omega), ht, bnd, rateAt]
      rfl
  · exact .inr ⟨_, by simp only [e]; rfl, by simp only [e]; rfl⟩
theorem p_in_spec (links : List TLink) (list : List TTributary) (routes : List (List Int)) (i : Nat) (s : List Int) (path out : List Int) (hr : routes[i]? = some path) (hl : links.length ≤ 12) (hp : path.length ≤ 1048576) (ho : out.length = links.length) (hi : i < list.length) :
    iter (M_spec_LinkLoadsL2 links list routes ((i : Int), s)) N0 (0, out) = some (LLin links.length (rateAt list i) path out) := by
  have ht : list[i]? = some list[i] := List.getElem?_eq_getElem hi
  refine iter_list (f := M_spec_LinkLoadsL2 links list routes ((i : Int), s)) path (fun k (a : List Int) => ((k : Int), a)) (stepIn links.length (rateAt list i) path) Sum.inl (fun _ a => a.length = links.length) (fun k a x hx ha => ?_) (fun a _ => by simp [M_spec_LinkLoadsL2, geti_nat, hr]) out ho (by omega)
  have hlt := (List.getElem?_eq_some_iff.1 hx).1
  have h1 : decide ((k : Int) < path.length) = true := by simp [hlt]
  simp only [M_spec_LinkLoadsL2, geti_nat, hr, Option.bind_some, h1, cond_true, hx, p_l1In, slT_nat path k (Nat.le_of_lt hlt), p_l1Has (path.take k) x (by simp; omega)]
  rw [w64_eq (n := (links.length : Int) - 1) (by omega) (by omega), w64_eq (n := (k : Int) + 1) (by omega) (by omega)]
  unfold stepIn
  rcases bt (wi x 0 ((links.length : Int) - 1)) with e | e
  · rcases bt ((path.take k).contains x) with e2 | e2
    · exact .inr ⟨_, by simp only [e, e2]; rfl, by simp only [e, e2]; rfl⟩
    · have hw : 0 ≤ x ∧ x ≤ (links.length : Int) - 1 := by simpa [wi] using e
      refine .inl ⟨_, by simp only [e, e2]; rfl, by simpa using ha, ?_⟩
      have hg : grd (0 ≤ x ∧ x < (a.length : Int)) = some () := grd_t ⟨hw.1, by omega⟩
      simp only [e, e2, Bool.not_true, cond_false, Option.bind_some, hg, get_in hw.1 (show x < (a.length : Int) by omega), ht, bnd, rateAt]
      rfl
  · exact .inr ⟨_, by simp only [e]; rfl, by simp only [e]; rfl⟩
theorem bne_len {α β : Type} (a : List α) (b : List β) : ((a.length : Int) != (b.length : Int)) = !decide (a.length = b.length) := by
  rw [Bool.eq_iff_iff]; simp; omega
theorem p_impl_LL (links : List TLink) (n : Int) (list : List TTributary) (routes : List (List Int)) (hl : links.length ≤ 1048576) (ht : list.length ≤ 1048576) (hr : z_IntSS routes ≤ 1048576) : M_impl_LinkLoads links n list routes = some (LL links n list routes) := by
  unfold M_impl_LinkLoads M_impl_isGrooming LL
  simp only [p_areLinks links n (by omega), p_impl_IsValidTributaries list n (by omega), Option.bind_some]
  rcases bt (lks links n) with e1 | e1
  · rcases bt (tribs list n) with e2 | e2
    · rcases bt (decide (routes.length = list.length)) with e3 | e3
      · have h1 := lks12 e1
        have h2 := tribs12 e2
        have h3 : routes.length = list.length := by simpa using e3
        simp only [e1, e2, cond_true, Option.bind_some, Bool.not_true, cond_false, bne_len, e3, Bool.and_self, if_true, bnd]
        rw [grd_t (by omega)]
        simp only [Option.bind_some, Int.toNat_natCast]
        have key : iter (M_impl_LinkLoadsL1 links list routes) N0 (0, List.replicate links.length 0) = some (LLout links.length list routes) := by
          refine iter_list (f := M_impl_LinkLoadsL1 links list routes) routes (fun k (a : List Int) => ((k : Int), a)) (stepOut links.length list) Sum.inl (fun _ a => a.length = links.length) (fun k a x hx ha => ?_) (fun a _ => by simp [M_impl_LinkLoadsL1]) _ (by simp) (by omega)
          have hlt := (List.getElem?_eq_some_iff.1 hx).1
          have q1 : decide ((k : Int) < routes.length) = true := by simp [hlt]
          have hxl : x.length ≤ 1048576 := by have := sum_ge (fun x : List Int => z_IntS x) hx; unfold z_IntSS at hr; unfold z_IntS at this hr; omega
          simp only [M_impl_LinkLoadsL1, q1, cond_true, geti_nat, hx, Option.bind_some, p_in_impl links list k a x a h1 hxl ha (by omega)]
          rw [w64_eq (n := (k : Int) + 1) (by omega) (by omega)]
          unfold stepOut
          have := LLin_len links.length (rateAt list k) x a ha
          cases e : LLin links.length (rateAt list k) x a with
          | inl o => rw [e] at this; exact .inl ⟨o, rfl, this, rfl⟩
          | inr r => exact .inr ⟨_, rfl, rfl⟩
        rw [key]
        simp only [Option.bind_some]
        cases LLout links.length list routes <;> rfl
      · simp [e1, e2, bne_len, e3]
    · simp [e1, e2]
  · simp [e1]
theorem p_spec_LL (links : List TLink) (n : Int) (list : List TTributary) (routes : List (List Int)) (hl : links.length ≤ 1048576) (ht : list.length ≤ 1048576) (hr : z_IntSS routes ≤ 1048576) : M_spec_LinkLoads links n list routes = some (LL links n list routes) := by
  unfold M_spec_LinkLoads LL
  simp only [p_l18Links links n (by omega), p_spec_IsValidTributaries list n (by omega), Option.bind_some]
  rcases bt (lks links n) with e1 | e1
  · rcases bt (tribs list n) with e2 | e2
    · rcases bt (decide (routes.length = list.length)) with e3 | e3
      · have h1 := lks12 e1
        have h2 := tribs12 e2
        have h3 : routes.length = list.length := by simpa using e3
        simp only [e1, e2, cond_true, Option.bind_some, Bool.not_true, cond_false, bne_len, e3, Bool.and_self, if_true, bnd]
        rw [grd_t (by omega)]
        simp only [Option.bind_some, Int.toNat_natCast]
        have key : iter (M_spec_LinkLoadsL1 links list routes) N0 (0, List.replicate links.length 0) = some (LLout links.length list routes) := by
          refine iter_list (f := M_spec_LinkLoadsL1 links list routes) routes (fun k (a : List Int) => ((k : Int), a)) (stepOut links.length list) Sum.inl (fun _ a => a.length = links.length) (fun k a x hx ha => ?_) (fun a _ => by simp [M_spec_LinkLoadsL1]) _ (by simp) (by omega)
          have hlt := (List.getElem?_eq_some_iff.1 hx).1
          have q1 : decide ((k : Int) < routes.length) = true := by simp [hlt]
          have hxl : x.length ≤ 1048576 := by have := sum_ge (fun x : List Int => z_IntS x) hx; unfold z_IntSS at hr; unfold z_IntS at this hr; omega
          simp only [M_spec_LinkLoadsL1, q1, cond_true, p_in_spec links list routes k a x a hx h1 hxl ha (by omega), Option.bind_some]
          rw [w64_eq (n := (k : Int) + 1) (by omega) (by omega)]
          unfold stepOut
          have := LLin_len links.length (rateAt list k) x a ha
          cases e : LLin links.length (rateAt list k) x a with
          | inl o => rw [e] at this; exact .inl ⟨o, rfl, this, rfl⟩
          | inr r => exact .inr ⟨_, rfl, rfl⟩
        rw [key]
        simp only [Option.bind_some]
        cases LLout links.length list routes <;> rfl
      · simp [e1, e2, bne_len, e3]
    · simp [e1, e2]
  · simp [e1]
end Vs

namespace Vs
open Go
theorem subT_len {α : Type} {xs : List α} {n : Nat} (h : xs.length = n) : subT xs 0 n = xs := by subst h; exact subT_all xs
theorem p_FnExactLinkLoads (links : List TLink) (n : Int) (list : List TTributary) (routes : List (List Int)) (o1 : ok_LinkS links) (o2 : ok_TributaryS list) (o3 : ok_IntSS routes) : M_laws_FnExactLinkLoads links n list routes = some true := by
  unfold M_laws_FnExactLinkLoads
  rw [p_szLinkS links _ (by omega) (by omega) o1]
  simp only [Option.bind_some]
  by_cases h : (1048576 : Int) - z_LinkS links < 0
  · simp [h]
  simp only [h, if_false, decide_false, cond_false]
  rw [p_szTributaryS list _ (by omega) (by omega) o2]
  simp only [Option.bind_some]
  by_cases h2 : (1048576 : Int) - z_LinkS links - z_TributaryS list < 0
  · simp [h2]
  simp only [h2, if_false, decide_false, cond_false]
  rw [p_szIntSS routes _ (by omega) (by omega) o3]
  simp only [Option.bind_some]
  by_cases h3 : (1048576 : Int) - z_LinkS links - z_TributaryS list - z_IntSS routes < 0
  · simp [h3]
  have z1 : z_LinkS links ≤ 1048576 := by omega
  have z2 : z_TributaryS list ≤ 1048576 := by omega
  have z3 : z_IntSS routes ≤ 1048576 := by omega
  have z4 : z_IntS (LL links n list routes).1 ≤ 1048576 := by have := LL_len links n list routes; unfold z_IntS; omega
  have w1 := w_le_LinkS links
  have w2 := w_le_TributaryS list
  have w3 := w_le_IntSS routes
  have w4 := w_le_IntS (LL links n list routes).1
  have f1 := markL_fst mk_LinkS w_LinkS hw_LinkS links 1
  have m1 := p_markLinkS links 1 (by omega) (by omega) z1
  have f2 := markL_fst mk_TributaryS w_TributaryS hw_TributaryS list (markL mk_LinkS 1 links).1
  have m2 := p_markTributaryS list (markL mk_LinkS 1 links).1 (by omega) (by omega) z2
  have f3 := markL_fst mk_IntSS w_IntSS hw_IntSS routes (markL mk_TributaryS (markL mk_LinkS 1 links).1 list).1
  have m3 := p_markIntSS routes (markL mk_TributaryS (markL mk_LinkS 1 links).1 list).1 (by omega) (by omega) z3
  have n3 : decide ((markL mk_IntSS (markL mk_TributaryS (markL mk_LinkS 1 links).1 list).1 routes).1 < 0) = false := decide_eq_false (by omega)
  have m4 := p_markIntS (LL links n list routes).1 1 (by omega) (by omega) z4
  have f4 := markL_fst mk_IntS w_IntS hw_IntS (LL links n list routes).1 1
  have h4 := p_heldIntS (LL links n list routes).1 1 (by omega) (by omega) z4
  have n4 : decide ((markL mk_IntS 1 (LL links n list routes).1).1 < 0) = false := decide_eq_false (by omega)
  simp only [h3, if_false, decide_false, cond_false, p_toLinkS links z1, p_toTributaryS list z2, p_toIntSS routes z3, Option.bind_some, p_spec_LL links n list routes z1 z2 z3, p_impl_LL links n list routes z1 z2 z3, p_eqLinkS links z1, p_eqTributaryS list z2, p_eqIntSS routes z3,
    p_eqIntS (LL links n list routes).1 z4, Bool.not_true, beq_self_eq_true, m1, m2, m3, n3, m4, bnd, subT_len (markL_len mk_IntS (LL links n list routes).1 1), h4, n4, bne_self_eq_false]
end Vs

namespace Vs
open Go
theorem exists_map {α : Type} (e : α → AV) (p : α → Prop) : ∀ (xs : List AV), (∀ x ∈ xs, ∃ t, x = e t ∧ p t) → ∃ ts : List α, xs = ts.map e ∧ ∀ t ∈ ts, p t
  | [], _ => ⟨[], rfl, by simp⟩
  | x :: xs, h => by
    obtain ⟨t, h1, h2⟩ := h x (by simp)
    obtain ⟨ts, h3, h4⟩ := exists_map e p xs fun y hy => h y (by simp [hy])
    exact ⟨t :: ts, by simp [h1, h3], fun s hs => by
      rcases List.mem_cons.1 hs with rfl | hs
      · exact h2
      · exact h4 s hs⟩
theorem FitsL_cons {l : Lf} {ls : List Lf} : ∀ {al : List AV}, FitsL (l :: ls) al → ∃ a al', al = a :: al' ∧ Fits l a ∧ FitsL ls al'
  | a :: al, h => ⟨a, al, rfl, h.1, h.2⟩
  | [], h => h.elim
theorem FitsL_nil : ∀ {al : List AV}, FitsL [] al → al = []
  | [], _ => rfl
  | _ :: _, h => h.elim
theorem i64_of_wf {n : Int} (h : (Lit.int .i64 n).wf = true) : I64 n := by
  simpa [Lit.wf, IntKind.min, IntKind.max, IntKind.signed, IntKind.bits, I64] using h
theorem Fits_i64 {a : AV} (h : Fits (.int .i64) a) : ∃ n, a = .i n ∧ I64 n := by
  obtain ⟨n, h1, h2⟩ := h
  exact ⟨n, h1, i64_of_wf h2⟩
theorem rec3 {α : Type} (e : α → AV) (mk : Int → Int → Int → α) (he : ∀ a b c, e (mk a b c) = .agg [.i a, .i b, .i c]) {y : AV} (h : FitsA (false, [.sl true [.int .i64, .int .i64, .int .i64]]) y) : ∃ ts : List α, y = .lst .o 3 (ts.map e) ∧ ts.length ≤ maxLen := by
  obtain ⟨⟨xs, rfl, hl, hx⟩, _⟩ := h.2 rfl
  obtain ⟨ts, rfl, _⟩ := exists_map e (fun _ => True) xs fun x hxm => by
    obtain ⟨cs, rfl, hc⟩ := (hx x hxm).1 rfl
    obtain ⟨_, _, rfl, f1, hc⟩ := FitsL_cons hc
    obtain ⟨_, _, rfl, f2, hc⟩ := FitsL_cons hc
    obtain ⟨_, _, rfl, f3, hc⟩ := FitsL_cons hc
    obtain rfl := FitsL_nil hc
    obtain ⟨a, rfl, _⟩ := Fits_i64 f1
    obtain ⟨b, rfl, _⟩ := Fits_i64 f2
    obtain ⟨c, rfl, _⟩ := Fits_i64 f3
    exact ⟨mk a b c, (he a b c).symm, trivial⟩
  rw [List.length_map] at hl
  exact ⟨ts, rfl, hl⟩
theorem ints {y : AV} (h : FitsA (false, [.sl false [.int .i64]]) y) : ∃ ts : List Int, y = .lst .o 1 (ts.map AV.i) ∧ ts.length ≤ maxLen := by
  obtain ⟨⟨xs, rfl, hl, hx⟩, _⟩ := h.2 rfl
  obtain ⟨ts, rfl, _⟩ := exists_map AV.i (fun _ => True) xs fun x hxm => by
    obtain ⟨a, rfl, _⟩ := Fits_i64 ((hx x hxm).2 rfl).1
    exact ⟨a, rfl, trivial⟩
  rw [List.length_map] at hl
  exact ⟨ts, rfl, hl⟩
theorem one3 {α : Type} (e : α → AV) (mk : Int → Int → Int → α) (he : ∀ a b c, e (mk a b c) = .agg [.i a, .i b, .i c]) {y : AV} (h : FitsA (true, [.int .i64, .int .i64, .int .i64]) y) : ∃ t : α, y = e t := by
  obtain ⟨cs, rfl, hc⟩ := h.1 rfl
  obtain ⟨_, _, rfl, f1, hc⟩ := FitsL_cons hc
  obtain ⟨_, _, rfl, f2, hc⟩ := FitsL_cons hc
  obtain ⟨_, _, rfl, f3, hc⟩ := FitsL_cons hc
  obtain rfl := FitsL_nil hc
  obtain ⟨a, rfl, _⟩ := Fits_i64 f1
  obtain ⟨b, rfl, _⟩ := Fits_i64 f2
  obtain ⟨c, rfl, _⟩ := Fits_i64 f3
  exact ⟨mk a b c, (he a b c).symm⟩
theorem int1 {y : AV} (h : FitsA (false, [.int .i64]) y) : ∃ n : Int, y = .i n := by
  obtain ⟨⟨n, rfl, _⟩, _⟩ := h.2 rfl
  exact ⟨n, rfl⟩
end Vs

