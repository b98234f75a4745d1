/-
  Part of the proof that the law FnExactServiceMasks returns true at every input; no condition beside the row's own.
-/
import Derived.Test.YtkgenchldigkgaaGreatFe
import Derived.Test.YtkgenchldigkgaaGreatGc
import Derived.Test.YtkgenchldigkgaaGreatGb
import Derived.Test.YtkgenchldigkgaaGreatRows
import Derived.WalkKit
import Derived.ProofKit
import Derived.OpenShut
import Derived.JoinedCond
set_option linter.defProp false
set_option linter.unusedSimpArgs false
set_option linter.unusedVariables false
namespace Vs
open Go Go.RowKit
mutual
def lfs (P : Program) : Nat → TypeId → Option (Bool × List Lf)
  | 0, _ => none
  | k + 1, t => match P.underlying t with
    | some .bool => some (false, [.bool])
    | some (.int kd) => some (false, [.int kd])
    | some .string => some (false, [.str])
    | some (.slice e) => match lfs P k e with
      | some (ag, ls) => if P.cellsOf e = ls.length ∧ 0 < ls.length ∧ (ag = false → ls.length = 1) then some (false, [.sl ag ls]) else none
      | none => none
    | some (.struct fs) => match lfsF P k 0 fs.toList with
      | some ls => if P.cellsOf t = ls.length then some (true, ls) else none
      | none => none
    | _ => none
def lfsF (P : Program) : Nat → Nat → List Field → Option (List Lf)
  | _, _, [] => some []
  | 0, _, _ => none
  | k + 1, off, f :: fs => match lfs P k f.type with
    | some (_, ls) => if f.offset = off ∧ P.cellsOf f.type = ls.length then
        match lfsF P k (off + ls.length) fs with
        | some ms => some (ls ++ ms)
        | none => none
      else none
    | none => none
end
theorem FitsL_len : ∀ {ls : List Lf} {al : List AV}, FitsL ls al → ls.length = al.length
  | [], [], _ => rfl
  | l :: ls, a :: al, h => by simp only [FitsL] at h; simp [FitsL_len h.2]
  | [], _ :: _, h => by simp [FitsL] at h
  | _ :: _, [], h => by simp [FitsL] at h
section
variable {H : Type} {enc : TypeId × Value → H} {P : Program} {w : World} {base : Nat} {spare : Nat → Bool} {held : Bool} {S : Nat → Prop}
theorem add_lit' (b o i : Nat) : (⟨b, o, none⟩ : Addr).add i = ⟨b, o + i, none⟩ := by
  simp [Addr.add_lit]
theorem cell_lt {a : Addr} {v : Value} (h : w.cell? a = some v) : a.block < w.heap.size ∧ a.spot = none := by
  unfold World.cell? at h
  split at h
  · rename_i e
    refine ⟨(Array.getElem?_eq_some_iff.1 e).1, ?_⟩
    cases hs : a.spot with
    | none => rfl
    | some s => simp [hs] at h
  · cases h
theorem trod_cells (hS : ∀ b, b < w.heap.size → S b) : ∀ (k : Nat),
    (∀ (fuel : Nat) (t : TypeId) (cs : List Value) (x : DataW H × List MemPlace) (ag : Bool) (ls : List Lf), DataW.trod enc P w base spare held fuel t cs = some x → lfs P k t = some (ag, ls) → CellsRead w S cs ls) ∧
    (∀ (fs : List Field) (off fuel : Nat) (cs : List Value) (ls : List Lf), lfsF P k off fs = some ls → (∀ f ∈ fs, ∃ x, DataW.trod enc P w base spare held fuel f.type ((cs.drop f.offset).take (P.cellsOf f.type)) = some x) →
      off + ls.length ≤ cs.length → CellsRead w S ((cs.drop off).take ls.length) ls)
  | 0 => by
    refine ⟨fun fuel t cs x ag ls h hl => by simp [lfs] at hl, fun fs off fuel cs ls hl _ _ => ?_⟩
    cases fs with
    | nil => simp [lfsF] at hl; subst hl; exact ⟨[], by simp [FitsL], by simp, by simp⟩
    | cons f fs => simp [lfsF] at hl
  | k + 1 => by
    obtain ⟨ih1, ih2⟩ := trod_cells hS k
    constructor
    · intro fuel t cs x ag ls h hl
      simp only [lfs] at hl
      split at hl
      · rename_i hu
        cases hl
        obtain ⟨b, rfl, _⟩ := DataW.trod_bool hu h
        exact .one ⟨b, rfl⟩ (.sc _ rfl) rfl
      · rename_i kd hu
        cases hl
        obtain ⟨n, rfl, _, hw⟩ := DataW.trod_int hu h
        exact .one ⟨n, rfl, hw⟩ (.sc _ rfl) rfl
      · rename_i hu
        cases hl
        obtain ⟨z, rfl, _, hw⟩ := DataW.trod_string hu h
        exact .one ⟨z, rfl, hw⟩ (.sc _ rfl) rfl
      · rename_i e hu
        split at hl
        · rename_i ag' ls' he
          split at hl
          · rename_i hc
            obtain ⟨c1, c2, c3⟩ := hc
            cases hl
            rcases Go.Deep.open_slice hu h with ⟨rfl, _⟩ | ⟨a, len, cap, m, n, D, Pl, rfl, hb, hle, hmx, hm, _, hx⟩
            · exact .one ⟨[], rfl, Nat.zero_le _, by simp⟩ (.nil0 _ _) rfl
            · have hlm : len ≤ m := by rw [hm]; split <;> omega
              have hsa0 : 0 < len → a.spot = none := by
                intro h0
                obtain ⟨cs', h1, _⟩ := hx 0 (by omega)
                rw [c1] at h1
                obtain ⟨_, hlen, hcell⟩ := World.cells?_some h1
                have := hcell 0 c2
                rw [List.getElem?_eq_getElem (by omega)] at this
                have := (cell_lt this).2
                simpa [Addr.add] using this
              -- the elements
              have hel : ∀ i, i < len → ∃ (v : Value) (y : AV), RepP w S w.heap.size v y [] ∧ v.cells.size = ls'.length ∧ ((ag' = true → ∃ cs, y = .agg cs ∧ FitsL ls' cs) ∧ (ag' = false → FitsL ls' [y])) ∧
                  (∀ j u, v.cells[j]? = some u → w.cell? (a.add (i * ls'.length + j)) = some u ∧ u.oneCell' = true) := by
                intro i hi
                obtain ⟨cs', h1, h2⟩ := hx i (by omega)
                rw [c1] at h1
                obtain ⟨_, hlen, hcell⟩ := World.cells?_some h1
                obtain ⟨al, f1, f2, f3⟩ := ih1 n e cs' _ ag' ls' h2 he
                have hll := FitsL_len f1
                have hcl : ∀ j u, cs'[j]? = some u → w.cell? (a.add (i * ls'.length + j)) = some u ∧ u.oneCell' = true := by
                  intro j u hj
                  have hjl : j < ls'.length := by rw [← hlen]; exact (List.getElem?_eq_some_iff.1 hj).1
                  refine ⟨?_, (f3 j u al[j] hj (List.getElem?_eq_getElem (by omega))).2⟩
                  have := hcell j hjl
                  rw [hj] at this
                  rw [← this]
                  congr 1
                  have hsa := hsa0 (by omega)
                  obtain ⟨b, o, sp⟩ := a
                  simp only at hsa; subst hsa
                  rw [add_lit', add_lit', add_lit', Nat.add_assoc]
                cases ag' with
                | true =>
                  have := RepP.agg (w := w) (S := S) (B := w.heap.size) cs'.toArray al (fun _ => []) (by simpa using f2) (fun x hx => by
                      obtain ⟨j, hj, rfl⟩ := List.getElem_of_mem (by simpa using hx : x ∈ cs')
                      exact (f3 j _ al[j] (List.getElem?_eq_getElem hj) (List.getElem?_eq_getElem (by omega))).2)
                    (fun j x hj => by
                      have hjl : j < cs'.length := by rw [f2]; exact (List.getElem?_eq_some_iff.1 hj).1
                      have e : cs'.toArray.getD j undef = cs'[j] := by simp [hjl]
                      rw [e]
                      exact (f3 j _ x (List.getElem?_eq_getElem hjl) hj).1)
                  rw [catL_nil _ _ fun _ _ => rfl] at this
                  exact ⟨.agg cs'.toArray, .agg al, this, by simp [Value.cells, hlen], ⟨fun _ => ⟨al, rfl, f1⟩, (fun e => by cases e)⟩, fun j u hj => hcl j u (by simpa [Value.cells] using hj)⟩
                | false =>
                  have hl1 := c3 rfl
                  match cs', al, hlen, f2, f1 with
                  | [v], [y], _, _, f1 =>
                    obtain ⟨r1, r2⟩ := f3 0 v y rfl rfl
                    have hvc : v.cells = #[v] := one_cells r2
                    refine ⟨v, y, r1, by rw [hvc, hl1]; rfl, ⟨(fun e => by cases e), fun _ => f1⟩, fun j u hj => ?_⟩
                    rw [hvc] at hj
                    exact hcl j u (by simpa using hj)
                  | [], _, hlen, _, _ => simp at hlen; omega
                  | _ :: _ :: _, _, hlen, _, _ => simp at hlen; omega
                  | [_], [], _, f2, _ => simp at f2
                  | [_], _ :: _ :: _, _, f2, _ => simp at f2
              rcases Nat.eq_zero_or_pos len with hl0 | hl0
              · subst hl0
                exact .one ⟨[], rfl, Nat.zero_le _, by simp⟩ (.nil _ _ _ _ ⟨fun e => by (cases e), fun e => by (cases e)⟩) rfl
              · have hex : ∃ (vs : Nat → Value) (ys : Nat → AV), ∀ i, i < len → RepP w S w.heap.size (vs i) (ys i) [] ∧ (vs i).cells.size = ls'.length ∧ ((ag' = true → ∃ cs, ys i = .agg cs ∧ FitsL ls' cs) ∧ (ag' = false → FitsL ls' [ys i])) ∧
                    (∀ j u, (vs i).cells[j]? = some u → w.cell? (a.add (i * ls'.length + j)) = some u ∧ u.oneCell' = true) := by
                  classical
                  refine ⟨fun i => if h : i < len then Classical.choose (hel i h) else undef, fun i => if h : i < len then Classical.choose (Classical.choose_spec (hel i h)) else .top, fun i hi => ?_⟩
                  simp only [dif_pos hi]
                  exact Classical.choose_spec (Classical.choose_spec (hel i hi))
                obtain ⟨vs, ys, hvs⟩ := hex
                obtain ⟨p0, p1, _, p3⟩ := hvs 0 hl0
                have h0 := p3 0 ((vs 0).cells[0]'(by omega)) (Array.getElem?_eq_getElem (by omega))
                have hsp := cell_lt h0.1
                have hsa := hsa0 hl0
                have hbl : a.block < w.heap.size := by
                  have := hsp.1
                  obtain ⟨b, o, sp⟩ := a
                  simp only at hsa; subst hsa
                  rw [add_lit'] at this; exact this
                obtain ⟨b, o, sp⟩ := a
                simp only at hsa hbl; subst hsa
                have := RepP.lst (w := w) (S := S) (B := w.heap.size) .o ls'.length b o len cap ((List.range len).map ys) vs (fun _ => []) (by simp) hle ⟨hS b hbl, hbl⟩ (fun e => by cases e)
                  (fun j x hj => by
                    have hjl : j < len := by simpa using (List.getElem?_eq_some_iff.1 hj).1
                    refine ⟨(hvs j hjl).2.1, fun i u hu => ?_⟩
                    have := (hvs j hjl).2.2.2 i u hu
                    rw [add_lit'] at this
                    rw [Nat.add_assoc]; exact this)
                  (fun j x hj => by
                    have hjl : j < len := by simpa using (List.getElem?_eq_some_iff.1 hj).1
                    simp only [List.getElem?_map, List.getElem?_range hjl, Option.map_some, Option.some.injEq] at hj
                    subst hj
                    exact (hvs j hjl).1)
                rw [catL_nil _ _ fun _ _ => rfl, if_neg (by intro e; cases e)] at this
                refine .one ⟨_, rfl, by simp; omega, fun x hx => ?_⟩ this rfl
                obtain ⟨i, hi, rfl⟩ := List.mem_map.1 hx
                exact (hvs i (by simpa using hi)).2.2.1
          · cases hl
        · cases hl
      · rename_i fs hu
        split at hl
        · rename_i ls' hf
          split at hl
          · rename_i hc
            cases hl
            obtain ⟨xs, n, _, _, hlen, hxs, hat⟩ := DataW.trod_struct hu h
            have := ih2 fs.toList 0 n cs ls hf (fun f hfm => by
              obtain ⟨i, hi, rfl⟩ := List.getElem_of_mem hfm
              have hi' : i < fs.size := by simpa using hi
              have := hat i fs[i] (Array.getElem?_eq_getElem hi')
              rw [List.getElem?_eq_getElem (by omega)] at this
              exact ⟨_, by simpa using this⟩) (by rw [hlen, hc]; omega)
            have e : (cs.drop 0).take ls.length = cs := by rw [List.drop_zero, ← hc, ← hlen, List.take_length]
            rwa [e] at this
          · cases hl
        · cases hl
      · cases hl
    · intro fs off fuel cs ls hl hat hle
      cases fs with
      | nil => simp [lfsF] at hl; subst hl; exact ⟨[], by simp [FitsL], by simp, by simp⟩
      | cons f fs =>
        simp only [lfsF] at hl
        split at hl
        · rename_i ag' ls' he
          split at hl
          · rename_i hc
            obtain ⟨c1, c2⟩ := hc
            split at hl
            · rename_i ms hms
              cases hl
              obtain ⟨x, hx⟩ := hat f (by simp)
              rw [c1, c2] at hx
              have r1 := ih1 fuel f.type _ x ag' ls' hx he
              have r2 := ih2 fs (off + ls'.length) fuel cs ms hms (fun g hg => hat g (by simp [hg])) (by simp at hle; omega)
              have := r1.append r2
              have e : (cs.drop off).take ls'.length ++ (cs.drop (off + ls'.length)).take ms.length = (cs.drop off).take (ls' ++ ms).length := by
                rw [List.length_append, List.take_add, List.drop_drop]
              rwa [e] at this
            · cases hl
          · cases hl
        · cases hl
theorem trod_arg (hS : ∀ b, b < w.heap.size → S b) {k : Nat} {t : TypeId} {v : Value} {d : DataW H} {ps : List MemPlace} {ag : Bool} {ls : List Lf} (h : DataW.Trod enc P w base spare held t v d ps) (hl : lfs P k t = some (ag, ls))
    (hag : ag = true → ∃ cs, v = .agg cs) (hag' : ag = false → v.cells = #[v] ∧ ls.length = 1) :
    ∃ y, RepP w S w.heap.size v y [] ∧ (ag = true → ∃ cs, y = .agg cs ∧ FitsL ls cs) ∧ (ag = false → FitsL ls [y]) := by
  obtain ⟨fuel, h⟩ := h
  obtain ⟨al, f1, f2, f3⟩ := (trod_cells hS k).1 fuel t _ _ ag ls h hl
  cases ag with
  | true =>
    obtain ⟨cs, rfl⟩ := hag rfl
    simp only [Value.cells] at f2 f3
    have := RepP.agg (w := w) (S := S) (B := w.heap.size) cs al (fun _ => []) (by simpa using f2) (fun x hx => by
        obtain ⟨j, hj, rfl⟩ := Array.mem_iff_getElem.1 hx
        have hjl : j < al.length := by rw [← f2]; simpa using hj
        exact (f3 j cs[j] al[j] (by simp [hj]) (List.getElem?_eq_getElem hjl)).2)
      (fun j x hj => by
        have hjl : j < cs.size := by have := (List.getElem?_eq_some_iff.1 hj).1; rw [← f2] at this; simpa using this
        have e : cs.getD j undef = cs[j] := by simp [hjl]
        rw [e]
        exact (f3 j _ x (by simp [hjl]) hj).1)
    rw [catL_nil _ _ fun _ _ => rfl] at this
    exact ⟨_, this, fun _ => ⟨al, rfl, f1⟩, (fun e => by cases e)⟩
  | false =>
    obtain ⟨h1, h2⟩ := hag' rfl
    rw [h1] at f2 f3
    match al, f2, f1 with
    | [y], _, f1 => exact ⟨y, (f3 0 v y rfl rfl).1, (fun e => by cases e), fun _ => f1⟩
end
end Vs
namespace Vs
open Go Go.RowKit
section
variable {H : Type} {enc : TypeId × Value → H} {P : Program} {w w' : World} {base : Nat} {sp : Nat → Bool} {held : Bool}
theorem trod_struct_map {fs : Array Field} {t : TypeId} {n : Nat} {cs : List Value} {x : DataW H × List MemPlace} (ht : P.underlying t = some (.struct fs)) (h : DataW.trod enc P w base sp held (n + 1) t cs = some x) :
    ∃ xs, fs.toList.mapM (fun f => DataW.trod enc P w base sp held n f.type ((cs.drop f.offset).take (P.cellsOf f.type))) = some xs ∧ x = (.agg (xs.map (·.1)), xs.flatMap (·.2)) ∧ cs.length = P.cellsOf t := by
  unfold DataW.trod at h
  rw [ht] at h
  split at h <;> simp_all
  obtain ⟨hl, xs, hp, hd⟩ := h
  exact ⟨xs, hp, hd.symm⟩
theorem trod_sp : ∀ (k : Nat),
    (∀ (fuel : Nat) (t : TypeId) (cs : List Value) (x : DataW H × List MemPlace) (ag : Bool) (ls : List Lf), DataW.trod enc P w base (fun _ => true) held fuel t cs = some x → lfs P k t = some (ag, ls) →
      (∀ p ∈ x.2, sp p.block = true) → DataW.trod enc P w base sp held fuel t cs = some x) ∧
    (∀ (fs : List Field) (off fuel : Nat) (cs : List Value) (ls : List Lf) (xs : List (DataW H × List MemPlace)), lfsF P k off fs = some ls →
      fs.mapM (fun f => DataW.trod enc P w base (fun _ => true) held fuel f.type ((cs.drop f.offset).take (P.cellsOf f.type))) = some xs → (∀ x ∈ xs, ∀ p ∈ x.2, sp p.block = true) →
      fs.mapM (fun f => DataW.trod enc P w base sp held fuel f.type ((cs.drop f.offset).take (P.cellsOf f.type))) = some xs)
  | 0 => by
    refine ⟨fun fuel t cs x ag ls h hl => by simp [lfs] at hl, fun fs off fuel cs ls xs hl hm _ => ?_⟩
    cases fs with
    | nil => simpa using hm
    | cons f fs => simp [lfsF] at hl
  | k + 1 => by
    obtain ⟨ih1, ih2⟩ := trod_sp k
    constructor
    · intro fuel t cs x ag ls h hl hs
      cases fuel with
      | zero => simp [DataW.trod] at h
      | succ fuel =>
      simp only [lfs] at hl
      split at hl
      · rename_i hu
        obtain ⟨b, rfl, rfl⟩ := DataW.trod_bool hu h
        simp only [DataW.trod, hu]
      · rename_i kd hu
        obtain ⟨n, rfl, rfl, hw⟩ := DataW.trod_int hu h
        simp only [DataW.trod, hu]
        simp [hw]
      · rename_i hu
        obtain ⟨z, rfl, rfl, hw⟩ := DataW.trod_string hu h
        simp only [DataW.trod, hu]
        simp [hw]
      · rename_i e hu
        split at hl
        · rename_i ag' ls' he
          split at hl
          · rename_i hc
            obtain ⟨c1, c2, c3⟩ := hc
            have hcs : cs = [.slice none 0 0] ∨ ∃ a len cap, cs = [.slice (some a) len cap] := by
              rcases Go.Deep.open_slice hu h with ⟨e, _⟩ | ⟨a, len, cap, _, _, _, _, e, _⟩
              · exact .inl e
              · exact .inr ⟨a, len, cap, e⟩
            rcases hcs with rfl | ⟨a, len, cap, rfl⟩
            · simp only [DataW.trod, hu] at h ⊢; exact h
            · simp only [DataW.trod, hu] at h ⊢
              split at h
              · rename_i hcc
                rw [if_pos hcc]
                simp only [Option.map_eq_some_iff, Option.bind_eq_some_iff, if_true] at h ⊢
                obtain ⟨elems, hel, rest, hrest, rfl⟩ := h
                have hlen : elems.length = len := by simpa using mapM_some_length hel
                have hrl : rest.length = cap - len := by simpa using mapM_some_length hrest
                have one : ∀ (i : Nat) (y : DataW H × List MemPlace), y ∈ elems ++ rest →
                    (w.cells? base (a.add (i * P.cellsOf e)) (P.cellsOf e)).bind (DataW.trod enc P w base (fun _ => true) held fuel e) = some y →
                    (w.cells? base (a.add (i * P.cellsOf e)) (P.cellsOf e)).bind (DataW.trod enc P w base sp held fuel e) = some y := by
                  intro i y hy hv
                  simp only [Option.bind_eq_some_iff] at hv ⊢
                  obtain ⟨cs', h1, h2⟩ := hv
                  refine ⟨cs', h1, ih1 fuel e cs' y ag' ls' h2 he fun p hp => hs p ?_⟩
                  simp only [List.mem_append, List.mem_flatMap]
                  right
                  exact ⟨y, by simpa using hy, hp⟩
                refine ⟨elems, mapM_carry hel (fun i y hi hy => one i y (by simp [hy])), rest, ?_, rfl⟩
                rcases Nat.eq_zero_or_pos (cap - len) with hz | hz
                · have : rest = [] := List.length_eq_zero_iff.1 (by omega)
                  subst this
                  rw [hz]; simp
                · have hsa : sp a.block = true := by
                    refine hs (.cell a.block (a.off + 0)) ?_
                    simp only [List.mem_append]
                    left
                    refine MemPlace.mem_row.2 ⟨0, ?_, rfl⟩
                    rw [hlen, hrl]
                    exact Nat.mul_pos (by omega) (by omega)
                  rw [if_pos hsa]
                  exact mapM_carry hrest (fun j y hj hy => one (len + j) y (by simp [hy]))
              · cases h
          · cases hl
        · cases hl
      · rename_i fs hu
        split at hl
        · rename_i ls' hf
          obtain ⟨xs, hmap, rfl, hlen⟩ := trod_struct_map hu h
          exact Go.ChangeShapes.trod_struct_mk hu hlen (ih2 fs.toList 0 fuel cs ls' xs hf hmap fun y hy p hp => hs p (List.mem_flatMap.2 ⟨y, hy, hp⟩))
        · cases hl
      · cases hl
    · intro fs off fuel cs ls xs hl hm hs
      cases fs with
      | nil => simpa using hm
      | cons f fs =>
        simp only [lfsF] at hl
        split at hl
        · rename_i ag' ls' he
          split at hl
          · split at hl
            · rename_i ms hms
              rw [List.mapM_cons] at hm ⊢
              cases hx : DataW.trod enc P w base (fun _ => true) held fuel f.type ((cs.drop f.offset).take (P.cellsOf f.type)) with
              | none => simp [hx] at hm
              | some y =>
                cases hys : fs.mapM (fun f => DataW.trod enc P w base (fun _ => true) held fuel f.type ((cs.drop f.offset).take (P.cellsOf f.type))) with
                | none => simp [hx, hys] at hm
                | some ys =>
                  simp [hx, hys] at hm
                  subst hm
                  rw [ih1 fuel f.type _ y ag' ls' hx he (fun p hp => hs y (by simp) p hp), ih2 fs _ fuel cs ms ys hms hys (fun z hz p hp => hs z (by simp [hz]) p hp)]
                  rfl
            · cases hl
          · cases hl
        · cases hl
def lfsAll (P : Program) (k : Nat) : List TypeId → Option (List (Bool × List Lf))
  | [] => some []
  | t :: ts => match lfs P k t, lfsAll P k ts with
    | some s, some ss => some (s :: ss)
    | _, _ => none
theorem okWide_cells {k b : Nat} {t : TypeId} {v : Value} {ag : Bool} {ls : List Lf} (hl : lfs P k t = some (ag, ls)) (h : Value.okWide P w .any b t v) :
    (ag = true → ∃ cs, v = .agg cs) ∧ (ag = false → v.cells = #[v] ∧ ls.length = 1) := by
  cases k with
  | zero => simp [lfs] at hl
  | succ k =>
    simp only [lfs] at hl
    unfold Value.okWide at h
    split at hl
    · rename_i hu
      cases hl
      rw [hu] at h
      simp only at h
      refine ⟨(fun e => by cases e), fun _ => ⟨?_, rfl⟩⟩
      unfold Cell.okWide Cell.ok at h
      rw [hu] at h
      cases v <;> first | rfl | simp at h
    · rename_i kd hu
      cases hl
      rw [hu] at h
      simp only at h
      refine ⟨(fun e => by cases e), fun _ => ⟨?_, rfl⟩⟩
      unfold Cell.okWide Cell.ok at h
      rw [hu] at h
      cases v <;> first | rfl | simp at h
    · rename_i hu
      cases hl
      rw [hu] at h
      simp only at h
      refine ⟨(fun e => by cases e), fun _ => ⟨?_, rfl⟩⟩
      unfold Cell.okWide Cell.ok at h
      rw [hu] at h
      cases v <;> first | rfl | simp at h
    · rename_i e hu
      split at hl
      · split at hl
        · cases hl
          rw [hu] at h
          simp only at h
          refine ⟨(fun e => by cases e), fun _ => ⟨?_, rfl⟩⟩
          unfold Cell.okWide Cell.ok at h
          rw [hu] at h
          cases v <;> first | rfl | simp at h
        · cases hl
      · cases hl
    · rename_i fs hu
      split at hl
      · split at hl
        · cases hl
          rw [hu] at h
          simp only at h
          obtain ⟨cs, rfl, _⟩ := h
          exact ⟨fun _ => ⟨cs, rfl⟩, (fun e => by cases e)⟩
        · cases hl
      · cases hl
    · cases hl
theorem args_rep {S : Nat → Prop} {k b0 : Nat} (hS : ∀ b, b < w.heap.size → S b) : ∀ {ts : List TypeId} {vs : List Value} {ds : List (DataW H)} {ps : List MemPlace} {ss : List (Bool × List Lf)}, DataW.TrodAll enc P w base sp held ts vs ds ps → lfsAll P k ts = some ss →
    (∀ (j : Nat) t v, ts[j]? = some t → vs[j]? = some v → Value.okWide P w .any b0 t v) →
    ∃ ys, FitsAll ss ys ∧ ys.length = vs.length ∧ ∀ (j : Nat) (v : Value) (y : AV), vs[j]? = some v → ys[j]? = some y → RepP w S w.heap.size v y []
  | [], [], [], ps, ss, _, hl, _ => by
    simp [lfsAll] at hl; subst hl
    exact ⟨[], trivial, rfl, by simp⟩
  | t :: ts, v :: vs, d :: ds, ps, ss, h, hl, hok => by
    obtain ⟨p, q, h1, h2, _⟩ := h
    simp only [lfsAll] at hl
    split at hl
    · rename_i s ss' e1 e2
      cases hl
      obtain ⟨ag, ls⟩ := s
      obtain ⟨c1, c2⟩ := okWide_cells e1 (hok 0 t v rfl rfl)
      obtain ⟨y, r1, r2, r3⟩ := trod_arg hS h1 e1 c1 c2
      obtain ⟨ys, f1, f2, f3⟩ := args_rep hS h2 e2 fun j t v ht hv => hok (j + 1) t v (by simpa using ht) (by simpa using hv)
      refine ⟨y :: ys, ⟨⟨r2, r3⟩, f1⟩, by simp [f2], fun j u z hu hz => ?_⟩
      cases j with
      | zero => simp at hu hz; subst hu; subst hz; exact r1
      | succ j => exact f3 j u z (by simpa using hu) (by simpa using hz)
    · cases hl
  | [], _ :: _, _, _, _, h, _, _ => by simp [DataW.TrodAll] at h
  | [], [], _ :: _, _, _, h, _, _ => by simp [DataW.TrodAll] at h
  | _ :: _, [], _, _, _, h, _, _ => by simp [DataW.TrodAll] at h
  | _ :: _, _ :: _, [], _, _, h, _, _ => by simp [DataW.TrodAll] at h
theorem args_same {k : Nat} : ∀ {ts : List TypeId} {vs : List Value} {ds : List (DataW H)} {ps : List MemPlace} {ss : List (Bool × List Lf)}, DataW.TrodAll enc P w base (fun _ => true) held ts vs ds ps → lfsAll P k ts = some ss →
    (∀ p ∈ ps, w.sameAt w' p) → (∀ p ∈ ps, sp p.block = true) → DataW.TrodAll enc P w' base sp held ts vs ds ps
  | [], [], [], ps, ss, h, _, _, _ => h
  | t :: ts, v :: vs, d :: ds, ps, ss, h, hl, hs, hsp => by
    obtain ⟨p, q, ⟨fuel, h1⟩, h2, rfl⟩ := h
    simp only [lfsAll] at hl
    split at hl
    · rename_i s ss' e1 e2
      exact ⟨p, q, ⟨fuel, DataW.trod_carry fuel t _ _ ((trod_sp k).1 fuel t _ _ s.1 s.2 h1 e1 fun x hx => hsp x (by simp [show x ∈ p from hx])) fun x hx => hs x (by simp [show x ∈ p from hx])⟩,
        args_same h2 e2 (fun x hx => hs x (by simp [hx])) (fun x hx => hsp x (by simp [hx])), rfl⟩
    · cases hl
  | [], _ :: _, _, _, _, h, _, _, _ => by simp [DataW.TrodAll] at h
  | [], [], _ :: _, _, _, h, _, _, _ => by simp [DataW.TrodAll] at h
  | _ :: _, [], _, _, _, h, _, _, _ => by simp [DataW.TrodAll] at h
  | _ :: _, _ :: _, [], _, _, h, _, _, _ => by simp [DataW.TrodAll] at h
theorem law_calls {f k b0 : Nat} {fn : Func} {s : ChangeSpec} {tb : TypeId} {ss : List (Bool × List Lf)} {again : Bool} {apart fresh : Bool} (hvars : s.vars = [])
    (hfn : ∀ ds : List (DataW H), ds.length = fn.params.size → s.fn H ds = { results := [.lit (.bool true)], args := ds }) (hres : fn.resultTypes = #[tb]) (htb : P.underlying tb = some .bool) (hsh : lfsAll P k fn.params.toList = some ss)
    (hok : ∀ ys, FitsAll ss ys → Ok P f ys (.b true)) {args : Array Value} {ds gs : List (DataW H)} {before : List MemPlace}
    (hval : ∀ (j : Nat) t v, fn.params[j]? = some t → args[j]? = some v → Value.okWide P w .any b0 t v)
    (hW : DataW.Whole enc P fn.params.toList s.vars apart w args.toList ds gs before) :
    Calls P f args w fun e W' => ∃ v, e = .returned v ∧ s.post enc P fn apart fresh false again w args v W' := by
  have hW' := hW
  have hlt := hW.lt
  obtain ⟨p, q, hA, hV, rfl, hfz, hnd⟩ := hW
  rw [hvars] at hV
  obtain ⟨rfl, rfl⟩ := Go.ChangeShapes.trodVars_none hV
  obtain ⟨ys, f1, f2, f3⟩ := args_rep (S := fun b => b < w.heap.size) (k := k) (b0 := b0) (fun b hb => hb) hA hsh (fun j t v ht hv => hval j t v (by simpa using ht) (by simpa using hv))
  have hlen : ∀ {ts : List TypeId} {vs : List Value} {ds : List (DataW H)} {ps : List MemPlace}, DataW.TrodAll enc P w 0 (fun _ => true) true ts vs ds ps → ds.length = ts.length := by
    intro ts
    induction ts with
    | nil => intro vs ds ps h; cases vs <;> cases ds <;> simp_all [DataW.TrodAll]
    | cons t ts ih =>
      intro vs ds ps h
      cases vs <;> cases ds <;> simp only [DataW.TrodAll] at h
      obtain ⟨_, _, _, h2, _⟩ := h
      simp [ih h2]
  have hdl := hlen hA
  refine ((hok ys f1).2 w (fun b => b < w.heap.size) args (fun b hb => hb) (by simpa using f2.symm) (fun j x hj => ?_)).mono ?_
  · have hjl : j < args.size := by rw [← Array.length_toList, ← f2]; exact (List.getElem?_eq_some_iff.1 hj).1
    have e : args.getD j undef = args[j] := by simp [hjl]
    rw [e]
    exact f3 j _ x (by simp [hjl]) hj
  · rintro e W' ⟨v, fp, S', rfl, hbel, _, _, hr⟩
    have hv : v = .bool true := by cases hr; rfl
    subst hv
    refine ⟨_, rfl, ?_⟩
    have hfd := hfn (ds ++ []) (by simpa using hdl)
    refine Go.ChangeShapes.post_of_same (pa := p) (pv := []) hW' (fun b sp' hd => ?_) (fun sp' hsp => ?_) (fun sp' _ => ?_) rfl (hbel.bel.frame _) hbel.frz (ok_one hres rfl (okWide_bool_mk htb _))
    · rw [hfd, hres]
      exact ⟨[], [], shut_bool htb _, rfl, rfl⟩
    · rw [hfd]
      simp only [List.append_nil]
      exact args_same hA hsh (fun x hx => hbel.bel.same (hlt x (by simp [hx]))) (fun x hx => hsp x (by simp [hx]))
    · rw [hfd, hvars]; rfl
end
end Vs

namespace Vs
open Go
theorem exists_map {α : Type} (e : α → AV) (p : α → Prop) : ∀ (xs : List AV), (∀ x ∈ xs, ∃ t, x = e t ∧ p t) → ∃ ts : List α, xs = ts.map e ∧ ∀ t ∈ ts, p t
  | [], _ => ⟨[], rfl, by simp⟩
  | x :: xs, h => by
    obtain ⟨t, h1, h2⟩ := h x (by simp)
    obtain ⟨ts, h3, h4⟩ := exists_map e p xs fun y hy => h y (by simp [hy])
    exact ⟨t :: ts, by simp [h1, h3], fun s hs => by
      rcases List.mem_cons.1 hs with rfl | hs
      · exact h2
      · exact h4 s hs⟩
theorem FitsL_cons {l : Lf} {ls : List Lf} : ∀ {al : List AV}, FitsL (l :: ls) al → ∃ a al', al = a :: al' ∧ Fits l a ∧ FitsL ls al'
  | a :: al, h => ⟨a, al, rfl, h.1, h.2⟩
  | [], h => h.elim
theorem FitsL_nil : ∀ {al : List AV}, FitsL [] al → al = []
  | [], _ => rfl
  | _ :: _, h => h.elim
theorem i64_of_wf {n : Int} (h : (Lit.int .i64 n).wf = true) : I64 n := by
  simpa [Lit.wf, IntKind.min, IntKind.max, IntKind.signed, IntKind.bits, I64] using h
theorem Fits_i64 {a : AV} (h : Fits (.int .i64) a) : ∃ n, a = .i n ∧ I64 n := by
  obtain ⟨n, h1, h2⟩ := h
  exact ⟨n, h1, i64_of_wf h2⟩
theorem rec3 {α : Type} (e : α → AV) (mk : Int → Int → Int → α) (he : ∀ a b c, e (mk a b c) = .agg [.i a, .i b, .i c]) {y : AV} (h : FitsA (false, [.sl true [.int .i64, .int .i64, .int .i64]]) y) : ∃ ts : List α, y = .lst .o 3 (ts.map e) ∧ ts.length ≤ maxLen := by
  obtain ⟨⟨xs, rfl, hl, hx⟩, _⟩ := h.2 rfl
  obtain ⟨ts, rfl, _⟩ := exists_map e (fun _ => True) xs fun x hxm => by
    obtain ⟨cs, rfl, hc⟩ := (hx x hxm).1 rfl
    obtain ⟨_, _, rfl, f1, hc⟩ := FitsL_cons hc
    obtain ⟨_, _, rfl, f2, hc⟩ := FitsL_cons hc
    obtain ⟨_, _, rfl, f3, hc⟩ := FitsL_cons hc
    obtain rfl := FitsL_nil hc
    obtain ⟨a, rfl, _⟩ := Fits_i64 f1
    obtain ⟨b, rfl, _⟩ := Fits_i64 f2
    obtain ⟨c, rfl, _⟩ := Fits_i64 f3
    exact ⟨mk a b c, (he a b c).symm, trivial⟩
  rw [List.length_map] at hl
  exact ⟨ts, rfl, hl⟩
theorem ints {y : AV} (h : FitsA (false, [.sl false [.int .i64]]) y) : ∃ ts : List Int, y = .lst .o 1 (ts.map AV.i) ∧ ts.length ≤ maxLen := by
  obtain ⟨⟨xs, rfl, hl, hx⟩, _⟩ := h.2 rfl
  obtain ⟨ts, rfl, _⟩ := exists_map AV.i (fun _ => True) xs fun x hxm => by
    obtain ⟨a, rfl, _⟩ := Fits_i64 ((hx x hxm).2 rfl).1
    exact ⟨a, rfl, trivial⟩
  rw [List.length_map] at hl
  exact ⟨ts, rfl, hl⟩
theorem one3 {α : Type} (e : α → AV) (mk : Int → Int → Int → α) (he : ∀ a b c, e (mk a b c) = .agg [.i a, .i b, .i c]) {y : AV} (h : FitsA (true, [.int .i64, .int .i64, .int .i64]) y) : ∃ t : α, y = e t := by
  obtain ⟨cs, rfl, hc⟩ := h.1 rfl
  obtain ⟨_, _, rfl, f1, hc⟩ := FitsL_cons hc
  obtain ⟨_, _, rfl, f2, hc⟩ := FitsL_cons hc
  obtain ⟨_, _, rfl, f3, hc⟩ := FitsL_cons hc
  obtain rfl := FitsL_nil hc
  obtain ⟨a, rfl, _⟩ := Fits_i64 f1
  obtain ⟨b, rfl, _⟩ := Fits_i64 f2
  obtain ⟨c, rfl, _⟩ := Fits_i64 f3
  exact ⟨mk a b c, (he a b c).symm⟩
theorem int1 {y : AV} (h : FitsA (false, [.int .i64]) y) : ∃ n : Int, y = .i n := by
  obtain ⟨⟨n, rfl, _⟩, _⟩ := h.2 rfl
  exact ⟨n, rfl⟩
end Vs

namespace Vs
open Go Go.Proofs
theorem fl_StringS {a : AV} (h : Fits (.sl false [.str]) a) : ∃ xs : List ByteArray, a = .lst .o 1 (xs.map AV.z) ∧ ok_StringS xs := by
  obtain ⟨xs, rfl, hl, hx⟩ := h
  obtain ⟨ts, rfl, ht⟩ := exists_map (AV.z) (fun x => x.size ≤ 9223372036854775807) xs fun x hxm => by
    have hc := ((hx x hxm).2 rfl).1
    obtain ⟨s4, rfl, hs4⟩ := hc
    exact ⟨s4, rfl, (by simpa [maxLen] using hs4)⟩
  rw [List.length_map] at hl
  exact ⟨ts, rfl, ⟨by simpa [maxLen] using hl, ht⟩⟩
theorem fl_FiberS {a : AV} (h : Fits (.sl true [.int .i64, .int .i64, .int .i64, .int .i64]) a) : ∃ xs : List TFiber, a = .lst .o 4 (xs.map (e_TFiber .o)) ∧ ok_FiberS xs := by
  obtain ⟨xs, rfl, hl, hx⟩ := h
  obtain ⟨ts, rfl, ht⟩ := exists_map ((e_TFiber .o)) (fun _ => True) xs fun x hxm => by
    obtain ⟨cs, rfl, hc⟩ := (hx x hxm).1 rfl
    obtain ⟨_, _, rfl, f6, hc⟩ := FitsL_cons hc
    obtain ⟨_, _, rfl, f7, hc⟩ := FitsL_cons hc
    obtain ⟨_, _, rfl, f8, hc⟩ := FitsL_cons hc
    obtain ⟨_, _, rfl, f9, hc⟩ := FitsL_cons hc
    obtain rfl := FitsL_nil hc
    obtain ⟨n10, rfl, _⟩ := Fits_i64 f6
    obtain ⟨n11, rfl, _⟩ := Fits_i64 f7
    obtain ⟨n12, rfl, _⟩ := Fits_i64 f8
    obtain ⟨n13, rfl, _⟩ := Fits_i64 f9
    exact ⟨⟨n10, n11, n12, n13⟩, rfl, trivial⟩
  rw [List.length_map] at hl
  exact ⟨ts, rfl, by simpa [maxLen, ok_FiberS] using hl⟩
theorem rd_Network {y : AV} (h : FitsA (true, [.sl false [.str], .sl true [.int .i64, .int .i64, .int .i64, .int .i64]]) y) : ∃ x : TNetwork, y = (e_TNetwork .o) x ∧ ok_Network x := by
  obtain ⟨cs, rfl, hc⟩ := h.1 rfl
  obtain ⟨_, _, rfl, f1, hc⟩ := FitsL_cons hc
  obtain ⟨_, _, rfl, f2, hc⟩ := FitsL_cons hc
  obtain rfl := FitsL_nil hc
  obtain ⟨l3, rfl, hl3⟩ := fl_StringS f1
  obtain ⟨l5, rfl, hl5⟩ := fl_FiberS f2
  exact ⟨⟨l3, l5⟩, rfl, ⟨hl3, hl5⟩⟩
theorem fl_IntS {a : AV} (h : Fits (.sl false [.int .i64]) a) : ∃ xs : List Int, a = .lst .o 1 (xs.map AV.i) ∧ ok_IntS xs := by
  obtain ⟨xs, rfl, hl, hx⟩ := h
  obtain ⟨ts, rfl, ht⟩ := exists_map (AV.i) (fun _ => True) xs fun x hxm => by
    have hc := ((hx x hxm).2 rfl).1
    obtain ⟨n28, rfl, _⟩ := Fits_i64 hc
    exact ⟨n28, rfl, trivial⟩
  rw [List.length_map] at hl
  exact ⟨ts, rfl, by simpa [maxLen, ok_IntS] using hl⟩
theorem fl_ServiceS {a : AV} (h : Fits (.sl true [.int .i64, .int .i64, .int .i64, .sl false [.int .i64], .int .i64, .int .i64, .int .i64, .sl false [.int .i64], .int .i64, .int .i64]) a) : ∃ xs : List TService, a = .lst .o 10 (xs.map (e_TService .o)) ∧ ok_ServiceS xs := by
  obtain ⟨xs, rfl, hl, hx⟩ := h
  obtain ⟨ts, rfl, ht⟩ := exists_map ((e_TService .o)) (fun x => ok_Service x) xs fun x hxm => by
    obtain ⟨cs, rfl, hc⟩ := (hx x hxm).1 rfl
    obtain ⟨_, _, rfl, f14, hc⟩ := FitsL_cons hc
    obtain ⟨_, _, rfl, f15, hc⟩ := FitsL_cons hc
    obtain ⟨_, _, rfl, f16, hc⟩ := FitsL_cons hc
    obtain ⟨_, _, rfl, f17, hc⟩ := FitsL_cons hc
    obtain ⟨_, _, rfl, f18, hc⟩ := FitsL_cons hc
    obtain ⟨_, _, rfl, f19, hc⟩ := FitsL_cons hc
    obtain ⟨_, _, rfl, f20, hc⟩ := FitsL_cons hc
    obtain ⟨_, _, rfl, f21, hc⟩ := FitsL_cons hc
    obtain ⟨_, _, rfl, f22, hc⟩ := FitsL_cons hc
    obtain ⟨_, _, rfl, f23, hc⟩ := FitsL_cons hc
    obtain rfl := FitsL_nil hc
    obtain ⟨n24, rfl, _⟩ := Fits_i64 f14
    obtain ⟨n25, rfl, _⟩ := Fits_i64 f15
    obtain ⟨n26, rfl, _⟩ := Fits_i64 f16
    obtain ⟨l27, rfl, hl27⟩ := fl_IntS f17
    obtain ⟨n29, rfl, _⟩ := Fits_i64 f18
    obtain ⟨n30, rfl, _⟩ := Fits_i64 f19
    obtain ⟨n31, rfl, _⟩ := Fits_i64 f20
    obtain ⟨l32, rfl, hl32⟩ := fl_IntS f21
    obtain ⟨n33, rfl, _⟩ := Fits_i64 f22
    obtain ⟨n34, rfl, _⟩ := Fits_i64 f23
    exact ⟨⟨n24, n25, ⟨n26, l27⟩, ⟨n29, n30⟩, ⟨n31, l32⟩, ⟨n33, n34⟩⟩, rfl, ⟨hl27, hl32⟩⟩
  rw [List.length_map] at hl
  exact ⟨ts, rfl, ⟨by simpa [maxLen] using hl, ht⟩⟩
theorem ok3 (ys : List AV) (h : FitsAll [(true, [.sl false [.str], .sl true [.int .i64, .int .i64, .int .i64, .int .i64]]), (false, [.sl true [.int .i64, .int .i64, .int .i64, .sl false [.int .i64], .int .i64, .int .i64, .int .i64, .sl false [.int .i64], .int .i64, .int .i64]])] ys) : Ok Tryz.prog 3 ys (.b true) := by
  match ys, h with
  | [a1, a2], ⟨h1, h2, _⟩ =>
    obtain ⟨x1, rfl, o1⟩ := rd_Network h1
    obtain ⟨x2, rfl, o2⟩ := fl_ServiceS (h2.2 rfl).1
    exact w_laws_FnExactServiceMasks x1 x2 (p_FnExactServiceMasks x1 x2 o1 o2)
end Vs
namespace Go.Proofs.YtkgenchldigkgaaGreat.fnExactServiceMasks
open Go.ChangeShapes Go.WideShapes Go.ChangeAt Go.RowKit
theorem own : ownKnob Tryz.prog.godebug = none := by kernel_rfl
set_option maxRecDepth 100000 in
theorem lifted (os : Os) (started : os.Started) (H : Type) (enc : TypeId × Value → H) :
    ReturnsInHanded {} Tryz.checked os 3 .any (Rows.fnExactServiceMasksSpec.pre6 enc Tryz.prog Tryz.f3 Rows.fnExactServiceMasksRow.domain false) (Rows.fnExactServiceMasksSpec.post enc Tryz.prog Tryz.f3 false true false false) := by
  refine returnsInHanded_of_change (C := Tryz.checked) own started (by kernel_rfl) Tryz.func3
    (ChangeSpec.witness6 (enc := enc) (C := Tryz.checked) false ⟨#[], #[.agg #[.slice none 0 0, .slice none 0 0], .slice none 0 0], []⟩ 8 (by kernel_rfl) (by kernel_rfl) (by kernel_rfl) (by kernel_rfl)) ?_
  intro W base args ds gs before hval hW _ _
  exact Vs.law_calls (k := 40) (ss := [(true, [.sl false [.str], .sl true [.int .i64, .int .i64, .int .i64, .int .i64]]), (false, [.sl true [.int .i64, .int .i64, .int .i64, .sl false [.int .i64], .int .i64, .int .i64, .int .i64, .sl false [.int .i64], .int .i64, .int .i64]])]) rfl (fun ds h => by
    match ds, h with
    | [d1, d2], _ => rfl) rfl (by kernel_rfl) (by kernel_rfl) Vs.ok3 hval hW
theorem over : Rows.fnExactServiceMasksRow.holds Tryz.pinned (OpenSpec.ofChange Rows.fnExactServiceMasksSpec) :=
  OpenClaim.holds_of_wide 3 Tryz.f3 rfl rfl rfl rfl rfl rfl rfl ⟨rfl, rfl, rfl, rfl, rfl⟩ rfl rfl rfl rfl rfl (by kernel_rfl) Tryz.func3 (by kernel_rfl)
    (of_decide_eq_true (by kernel_rfl)) (by unfold Func.isWrapper; first | (rw [if_pos (by decide +kernel)]; kernel_rfl) | (rw [if_neg (by decide +kernel)]; exact ⟨rfl, rfl⟩))
    (fun os started H enc _ => lifted os started H enc)
theorem proved : Rows.FnExactServiceMasksSaid := over
end Go.Proofs.YtkgenchldigkgaaGreat.fnExactServiceMasks


