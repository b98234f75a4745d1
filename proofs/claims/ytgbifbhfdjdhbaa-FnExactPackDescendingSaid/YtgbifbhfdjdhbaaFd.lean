/-
  Part of the proof that the law FnExactPackDescending returns true at every input; no condition beside the row's own.
-/
import Derived.Test.YtgbifbhfdjdhbaaFc
import Derived.Orders
import Derived.Deep.Slices
import Derived.ChangeSame
import Derived.Test.YtgbifbhfdjdhbaaFa
set_option linter.unusedSimpArgs false
set_option linter.unusedVariables false
/- Regions, part 1: what an abstract operation looks at; that it does one thing. -/
namespace Vs
open Go Go.RowKit

variable {ok : Oks} {g g' : X → AV} {ρ ρ' : Nat → Option Row} {d : Nat} {K : AV → List (Nat × Row) → Prop}

/-! ### It does one thing -/
def One (v : AV) (u : List (Nat × Row)) (v' : AV) (u' : List (Nat × Row)) : Prop := v' = v ∧ u' = u

theorem opt_mono {α : Type} {o : Option α} {A B : α → Prop} (h : opt o A) (hab : ∀ x, A x → B x) : opt o B := by
  obtain ⟨x, rfl, hx⟩ := opt_sm h
  exact hab x hx

/-- what eff says of K, it says of one pair -/
def Det (E : (AV → List (Nat × Row) → Prop) → Prop) : Prop := ∀ K, E K → ∃ v u, K v u ∧ ∀ K' : AV → List (Nat × Row) → Prop, K' v u → E K'
theorem Det.one {E : (AV → List (Nat × Row) → Prop) → Prop} (h : Det E) : ∀ K, E K → ∃ v u, K v u ∧ E (One v u) := fun K hK => let ⟨v, u, h1, h2⟩ := h K hK; ⟨v, u, h1, h2 _ ⟨rfl, rfl⟩⟩
theorem Det.mono {E : (AV → List (Nat × Row) → Prop) → Prop} (h : Det E) {K K' : AV → List (Nat × Row) → Prop} (hK : E K) (hm : ∀ v u, K v u → K' v u) : E K' := let ⟨v, u, h1, h2⟩ := h K hK; h2 _ (hm v u h1)

theorem det_of {E : (AV → List (Nat × Row) → Prop) → Prop} (h : (∀ K, ¬ E K) ∨ ∃ (C : Prop) (v : AV) (u : List (Nat × Row)), ∀ K, E K ↔ C ∧ K v u) : Det E := by
  intro K hK
  rcases h with h | ⟨C, v, u, h⟩
  · exact (h K hK).elim
  · exact ⟨v, u, ((h K).1 hK).2, fun K' hk => (h _).2 ⟨((h K).1 hK).1, hk⟩⟩

theorem det_pt (C : Prop) (v : AV) (u : List (Nat × Row)) (E : (AV → List (Nat × Row) → Prop) → Prop) (h : ∀ K, E K ↔ C ∧ K v u) : Det E := det_of (.inr ⟨C, v, u, h⟩)
theorem det_one (v : AV) (u : List (Nat × Row)) (E : (AV → List (Nat × Row) → Prop) → Prop) (h : ∀ K, E K ↔ K v u) : Det E := det_of (.inr ⟨True, v, u, by simpa using h⟩)
theorem det_no (E : (AV → List (Nat × Row) → Prop) → Prop) (h : ∀ K, ¬ E K) : Det E := det_of (.inl h)
theorem det_and {C : Prop} {E : (AV → List (Nat × Row) → Prop) → Prop} (h : Det E) : Det (fun K => C ∧ E K) := by
  rintro K ⟨c, hK⟩
  obtain ⟨v, u, h1, h2⟩ := h K hK
  exact ⟨v, u, h1, fun K' hk => ⟨c, h2 K' hk⟩⟩
theorem det_opt {α : Type} (o : Option α) (E : (AV → List (Nat × Row) → Prop) → α → Prop) (h : ∀ x, Det (fun K => E K x)) : Det (fun K => opt o (E K)) := by
  cases o with
  | none => exact det_no _ fun _ h => h
  | some x => exact h x
theorem det_k1 (x : AV) : Det (fun K => k1 K x) := det_one x [] _ fun _ => Iff.rfl

theorem det_ofI (k : IntKind) (m : Int) : Det (fun K => ofI k m (k1 K)) := by
  unfold ofI
  exact det_k1 _
theorem det_bin (op : BinOp) (x y : AV) : Det (fun K => binV op x y (k1 K)) := by
  unfold binV
  split
  · split
    · unfold shiftInt; exact det_and (det_ofI _ _)
    · unfold shiftInt; exact det_and (det_k1 _)
    · refine det_and ?_
      unfold binInt
      split
      all_goals first | exact det_and (det_ofI _ _) | exact det_and (det_k1 _) | exact det_ofI _ _ | exact det_k1 _ | exact det_no _ fun _ h => h
  · split
    all_goals first | exact det_k1 _ | exact det_no _ fun _ h => h
  · exact det_no _ fun _ h => h
theorem det_un (op : UnOp) (x : AV) : Det (fun K => unV op x (k1 K)) := by
  unfold unV
  split
  · exact det_ofI _ _
  · exact det_k1 _
  · exact det_no _ fun _ h => h

theorem det_callA (f : Nat) (args : List AV) : Det (callA ok ρ d f args) := by
  rintro K ⟨res, h1, h2, h3, h4⟩
  exact ⟨_, _, h4, fun K' hk => ⟨res, h1, h2, h3, hk⟩⟩

theorem det_callM (f : Nat) (args : List AV) (rs : List Nat) : Det (callM ok ρ d f args rs) := by
  rintro K ⟨res, outs, h1, h2, h3, h4⟩
  exact ⟨_, _, h4, fun K' hk => ⟨res, outs, h1, h2, h3, hk⟩⟩
theorem eff_det (op : AOp) : Det (fun K => eff ok g ρ d op K) := by
  cases op <;> simp only [eff]
  case mv x => exact det_one _ _ _ fun _ => Iff.rfl
  case pick c a b =>
    unfold ePick
    split
    · rename_i t _
      cases t
      · exact det_one (g b) [] _ fun K => by simp
      · exact det_one (g a) [] _ fun K => by simp
    · exact det_no _ fun _ h => h
  case alloc z => exact det_pt _ _ _ _ fun _ => Iff.rfl
  case box n x => exact det_and (det_pt _ _ _ _ fun _ => Iff.rfl)
  case build z ps => exact det_pt _ _ _ _ fun _ => Iff.rfl
  case bsl n fr ps => exact det_and (det_and (det_and (det_pt _ _ _ _ fun _ => Iff.rfl)))
  case load n ag x =>
    unfold eLoad
    split
    · exact det_opt _ _ fun x => det_k1 x
    · unfold eLoadPt
      split
      · exact det_and (det_opt _ _ fun x => det_k1 x)
      · exact det_opt _ _ fun x => det_opt _ _ fun x => det_k1 x
      · exact det_no _ fun _ h => h
    · exact det_no _ fun _ h => h
  case store n x v =>
    unfold eStore
    split
    · refine det_and ?_
      unfold eStorePt
      split
      · exact det_and (det_opt _ _ fun x => det_one _ _ _ fun _ => Iff.rfl)
      · refine det_opt _ _ fun x => ?_
        unfold stArr
        exact det_and (det_and (det_and (det_opt _ _ fun x => det_one _ _ _ fun _ => Iff.rfl)))
      · exact det_no _ fun _ h => h
    · exact det_no _ fun _ h => h
  case bin op x y => exact det_bin _ _ _
  case beq neg x y =>
    unfold eBeq
    split
    · exact det_one _ _ _ fun _ => Iff.rfl
    · exact det_no _ fun _ h => h
  case un op x => exact det_un _ _
  case conv k x =>
    unfold eConv
    split
    · exact det_one _ _ _ fun _ => Iff.rfl
    · exact det_no _ fun _ h => h
  case mkf f cs => exact det_one _ _ _ fun _ => Iff.rfl
  case mks n z bytes l c =>
    unfold eMks
    split
    · exact det_and (det_and (det_and (det_and (det_and (det_pt _ _ _ _ fun _ => Iff.rfl)))))
    · exact det_no _ fun _ h => h
  case slc n x lo hi mx =>
    unfold eSlc
    split
    · refine det_and (det_and (det_and (det_and (det_and ?_))))
      split
      · exact det_one _ _ _ fun _ => Iff.rfl
      · exact det_and (det_and (det_pt _ _ _ _ fun _ => Iff.rfl))
    · exact det_and (det_and (det_and (det_and (det_and (det_pt _ _ _ _ fun _ => Iff.rfl)))))
    · exact det_no _ fun _ h => h
  case slz x lo hi =>
    unfold eSlz
    split
    · exact det_and (det_and (det_and (det_pt _ _ _ _ fun _ => Iff.rfl)))
    · exact det_no _ fun _ h => h
  case fad off x =>
    unfold eFad
    split
    · exact det_one _ _ _ fun _ => Iff.rfl
    · exact det_pt _ _ _ _ fun _ => Iff.rfl
    · exact det_no _ fun _ h => h
  case idx n x i =>
    unfold eIdx
    split
    · exact det_and (det_and (det_opt _ _ fun x => det_one _ _ _ fun _ => Iff.rfl))
    · exact det_and (det_and (det_pt _ _ _ _ fun _ => Iff.rfl))
    · exact det_no _ fun _ h => h
  case fld off n ag x => unfold eFld; exact det_and (det_opt _ _ fun x => det_k1 x)
  case stri x i =>
    unfold eStri
    split
    · exact det_and (det_opt _ _ fun x => det_one _ _ _ fun _ => Iff.rfl)
    · exact det_no _ fun _ h => h
  case ext x j =>
    unfold eExt
    split
    · exact det_opt _ _ fun x => det_k1 x
    · exact det_no _ fun _ h => h
  case call f xs => exact det_callA _ _
  case dyn x xs =>
    unfold eDyn
    split
    · exact det_callA _ _
    · exact det_no _ fun _ h => h
  case bad => exact det_no _ fun _ h => h
  case callM f xs rs => exact det_callM _ _ _
  case dynM x xs rs =>
    unfold eDynM
    split
    · exact det_callM _ _ _
    · exact det_no _ fun _ h => h
  case len x =>
    unfold eLen
    split
    · exact det_one _ _ _ fun _ => Iff.rfl
    · exact det_one _ _ _ fun _ => Iff.rfl
    · exact det_pt _ _ _ _ fun _ => Iff.rfl
    · exact det_no _ fun _ h => h
  case lenz x =>
    unfold eLenz
    split
    · exact det_one _ _ _ fun _ => Iff.rfl
    · exact det_no _ fun _ h => h
  case app n bytes mv x y =>
    unfold eApp
    split
    · refine det_and (det_opt _ _ fun p => ?_)
      unfold appSl
      split
      · exact det_and (det_and (det_pt _ _ _ _ fun _ => Iff.rfl))
      · exact det_no _ fun _ h => h
    · refine det_and (det_opt _ _ fun p => ?_)
      unfold appTg
      exact det_and (det_and (det_pt _ _ _ _ fun _ => Iff.rfl))
    · exact det_no _ fun _ h => h
  case nilc x =>
    unfold eNil
    split
    · exact det_one _ _ _ fun _ => Iff.rfl
    · exact det_pt _ _ _ _ fun _ => Iff.rfl
    · exact det_no _ fun _ h => h
  case mn x y =>
    unfold eMn
    split
    · exact det_pt _ _ _ _ fun _ => Iff.rfl
    · exact det_no _ fun _ h => h
  case mx x y =>
    unfold eMx
    split
    · exact det_pt _ _ _ _ fun _ => Iff.rfl
    · exact det_no _ fun _ h => h

/-! ### What it looks at -/
def AOp.xs : AOp → List X
  | .mv x => [x]
  | .pick c a b => [c, a, b]
  | .alloc _ => []
  | .box _ x => [x]
  | .build _ ps => ps.map (·.2.2)
  | .bsl _ _ ps => ps
  | .load _ _ x => [x]
  | .store _ x v => [x, v]
  | .bin _ x y => [x, y]
  | .beq _ x y => [x, y]
  | .un _ x => [x]
  | .conv _ x => [x]
  | .mkf _ cs => cs
  | .mks _ _ _ l c => [l, c]
  | .slc _ x lo hi m => x :: (lo.toList ++ hi.toList ++ m.toList)
  | .slz x lo hi => x :: (lo.toList ++ hi.toList)
  | .fad _ x => [x]
  | .idx _ x i => [x, i]
  | .fld _ _ _ x => [x]
  | .stri x i => [x, i]
  | .ext x _ => [x]
  | .call _ xs => xs
  | .dyn x xs => x :: xs
  | .callM _ xs _ => xs
  | .dynM x xs _ => x :: xs
  | .len x => [x]
  | .lenz x => [x]
  | .app _ _ _ x y => [x, y]
  | .nilc x => [x]
  | .mn x y => [x, y]
  | .mx x y => [x, y]
  | .bad => []

theorem omap_congr {o : Option X} (h : ∀ x ∈ o.toList, g x = g' x) : o.map g = o.map g' := by
  cases o with
  | none => rfl
  | some x => simp [h x (by simp)]

theorem eff_xs (op : AOp) (h : ∀ x ∈ op.xs, g x = g' x) : eff ok g ρ d op K = eff ok g' ρ d op K := by
  cases op <;> simp only [AOp.xs, List.mem_cons, List.not_mem_nil, or_false, forall_eq_or_imp, forall_eq, List.mem_append] at h <;> simp only [eff]
  case build z ps =>
    have e : (ps.map fun p => (p.1, g p.2.2)) = ps.map fun p => (p.1, g' p.2.2) := List.map_congr_left fun p hp => by rw [h p.2.2 (List.mem_map.2 ⟨p, hp, rfl⟩)]
    rw [e]
    congr 1
    exact propext ⟨fun hh p hp => by rw [← h p.2.2 (List.mem_map.2 ⟨p, hp, rfl⟩)]; exact hh p hp, fun hh p hp => by rw [h p.2.2 (List.mem_map.2 ⟨p, hp, rfl⟩)]; exact hh p hp⟩
  case bsl n fr ps =>
    have e : ps.map g = ps.map g' := List.map_congr_left fun p hp => h p hp
    rw [e]
    have e2 : (∀ p ∈ ps, (g p).width = n) = ∀ p ∈ ps, (g' p).width = n :=
      propext ⟨fun hh p hp => by rw [← h p hp]; exact hh p hp, fun hh p hp => by rw [h p hp]; exact hh p hp⟩
    rw [e2]
  case mkf f cs => rw [List.map_congr_left (l := cs) fun p hp => h p hp]
  case call f xs => rw [List.map_congr_left (l := xs) fun p hp => h p hp]
  case dyn x xs => rw [h.1, List.map_congr_left (l := xs) fun p hp => h.2 p hp]
  case callM f xs rs => rw [List.map_congr_left (l := xs) fun p hp => h p hp]
  case dynM x xs rs => rw [h.1, List.map_congr_left (l := xs) fun p hp => h.2 p hp]
  case slc n x lo hi mx => rw [h.1, omap_congr (o := lo) fun y hy => h.2 y (.inl (.inl hy)), omap_congr (o := hi) fun y hy => h.2 y (.inl (.inr hy)), omap_congr (o := mx) fun y hy => h.2 y (.inr hy)]
  case slz x lo hi => rw [h.1, omap_congr (o := lo) fun y hy => h.2 y (.inl hy), omap_congr (o := hi) fun y hy => h.2 y (.inr hy)]
  all_goals simp only [h]

def AOp.quiet : AOp → Bool
  | .mv _ | .pick _ _ _ | .bin _ _ _ | .beq _ _ _ | .un _ _ | .conv _ _ | .mkf _ _ | .fld _ _ _ _ | .stri _ _ | .ext _ _ | .mn _ _ | .mx _ _ | .lenz _ | .build _ _ | .slz _ _ _ => true
  | _ => false
def AOp.calm : AOp → Bool
  | .load _ _ _ | .idx _ _ _ | .fad _ _ | .nilc _ | .len _ | .slc _ _ _ _ _ | .alloc _ | .box _ _ | .mks _ _ _ _ _ | .call _ _ | .dyn _ _ => true
  | .bsl _ fr _ => fr
  | _ => false

theorem eff_quiet {op : AOp} (h : op.quiet = true) : eff ok g ρ d op K = eff ok g ρ' d op K := by
  cases op <;> simp [AOp.quiet] at h <;> simp only [eff]

end Vs

/- Regions, part 2: what keeps an abstract operation's outcome. -/
namespace Vs
open Go Go.RowKit

variable {ok : Oks} {g g' : X → AV} {ρ ρ' : Nat → Option Row} {d : Nat} {v : AV} {u : List (Nat × Row)}

theorem lift_congr : ∀ (k : Nat) (x : AV), (∀ r ∈ x.ments, ρ r = ρ' r) → lift ρ k x = lift ρ' k x
  | 0, x, _ => by simp only [lift]
  | k + 1, x, h => by
    cases x <;> simp only [lift]
    case sl r i n => rw [h r (by simp [AV.ments])]
    case agg cs =>
      congr 1
      exact List.map_congr_left fun c hc => lift_congr k c fun r hr => h r (by simp only [AV.ments]; exact mentsL_mem.2 ⟨c, hc, hr⟩)
    case tup cs =>
      congr 1
      exact List.map_congr_left fun c hc => lift_congr k c fun r hr => h r (by simp only [AV.ments]; exact mentsL_mem.2 ⟨c, hc, hr⟩)

/-- the two agree where both are there; what is named is there in both -/
structure Agree (ρ ρ' : Nat → Option Row) : Prop where
  same : ∀ r x y, ρ r = some x → ρ' r = some y → x = y
  closed : ∀ r x, ρ r = some (.var x) → ρ' r = some (.var x) → ∀ q ∈ x.ments, (ρ q).isSome ∧ (ρ' q).isSome

theorem Agree.at (h : Agree ρ ρ') {r : Nat} (hr : (ρ r).isSome ∧ (ρ' r).isSome) : ρ r = ρ' r := by
  obtain ⟨h1, h2⟩ := hr
  cases e : ρ r with
  | none => rw [e] at h1; cases h1
  | some x => cases e' : ρ' r with
    | none => rw [e'] at h2; cases h2
    | some y => rw [h.same r x y e e']

theorem snp_congr (h : Agree ρ ρ') : ∀ (k : Nat) (x : AV), (∀ r ∈ x.ments, (ρ r).isSome ∧ (ρ' r).isSome) → snp ρ k x = snp ρ' k x
  | 0, x, _ => by simp only [snp]
  | k + 1, x, hx => by
    cases x <;> simp only [snp]
    case sl r i n => rw [h.at (hx r (by simp [AV.ments]))]
    case pt r i off =>
      have e := h.at (hx r (by simp [AV.ments]))
      cases hr : ρ r with
      | none => rw [hr] at e; rw [← e]; rfl
      | some row =>
        rw [hr] at e; rw [← e]
        cases row with
        | dead => rfl
        | arr n es => rfl
        | var y => simp only [snpPt]; rw [snp_congr h k y (h.closed r y hr e.symm)]
    case agg cs =>
      congr 1
      exact List.map_congr_left fun c hc => snp_congr h k c fun r hr => hx r (by simp only [AV.ments]; exact mentsL_mem.2 ⟨c, hc, hr⟩)
    case fn f cs =>
      congr 1
      exact List.map_congr_left fun c hc => snp_congr h k c fun r hr => hx r (by simp only [AV.ments]; exact mentsL_mem.2 ⟨c, hc, hr⟩)

theorem callA_keep (h : Agree ρ ρ') {f : Nat} {args : List AV} (hx : ∀ r ∈ mentsL args, (ρ r).isSome ∧ (ρ' r).isSome) (he : callA ok ρ d f args (One v u)) (hnew : ∀ p ∈ u, ρ' p.1 = none) :
    callA ok ρ' d f args (One v u) := by
  obtain ⟨res, h1, h2, h3, h4, h5⟩ := he
  refine ⟨res, ?_, h2, ?_, h4, h5⟩
  · rw [← List.map_congr_left (l := args) fun c hc => snp_congr h 4 c fun r hr => hx r (mentsL_mem.2 ⟨c, hc, hr⟩)]; exact h1
  · intro p hp
    exact ⟨hnew p (by rw [← h5]; exact hp), (h3 p hp).2⟩

theorem eff_calm {op : AOp} (hc : op.calm = true) (h : Agree ρ ρ') (hx : ∀ x ∈ op.xs, ∀ r ∈ (g x).ments, (ρ r).isSome ∧ (ρ' r).isSome) (he : eff ok g ρ d op (One v u)) (hnew : ∀ p ∈ u, ρ' p.1 = none) :
    eff ok g ρ' d op (One v u) := by
  cases op <;> simp [AOp.calm] at hc <;> simp only [AOp.xs, List.mem_cons, List.not_mem_nil, or_false, forall_eq_or_imp, forall_eq, List.mem_append] at hx <;> simp only [eff] at he ⊢
  case alloc z =>
    obtain ⟨h1, h2, h3⟩ := he
    exact ⟨hnew (d, .var z) (by rw [← h3]; exact List.mem_singleton.2 rfl), h2, h3⟩
  case box n x =>
    obtain ⟨h1, h2, h3, h4⟩ := he
    exact ⟨hnew (d, .var (g x)) (by rw [← h4]; exact List.mem_singleton.2 rfl), h2, h3, h4⟩
  case bsl n fr ps =>
    obtain ⟨h1, h2, h3, h4, h5, h6⟩ := he
    have hm := h1 hc
    have e : (ps.map g).map (lift ρ 2) = (ps.map g).map (lift ρ' 2) := List.map_congr_left fun c hc => lift_congr 2 c fun r hr => by
      have := mentsL_mem.2 ⟨c, hc, hr⟩
      rw [hm] at this; cases this
    refine ⟨h1, hnew (d, .arr n ((ps.map g).map (lift ρ 2))) (by rw [← h6]; exact List.mem_append_right _ (List.mem_singleton.2 rfl)), h3, h4, h5, ?_⟩
    rw [← e]; exact h6
  case load n ag x =>
    cases e : g x <;> rw [e] at he hx <;> simp only [eLoad] at he ⊢
    case bp => exact he
    case pt r i off => rw [← h.at (hx r (by simp [AV.ments]))]; exact he
  case mks n z bytes l c =>
    unfold eMks at he ⊢
    split at he
    · obtain ⟨h1, h2, h3, h4, h5, h6, h7, h8⟩ := he
      exact ⟨hnew (d, _) (by rw [← h8]; exact List.mem_singleton.2 rfl), h2, h3, h4, h5, h6, h7, h8⟩
    · exact he.elim
  case slc n x lo hi mx =>
    have hx := hx.1
    cases e : g x <;> rw [e] at he hx <;> simp only [eSlc] at he ⊢
    case lst => exact he
    case sl r i m => rw [← h.at (hx r (by simp [AV.ments]))]; exact he
  case fad off x =>
    cases e : g x <;> rw [e] at he hx <;> simp only [eFad] at he ⊢
    case bp => exact he
    case pt r i off => rw [← h.at (hx r (by simp [AV.ments]))]; exact he
  case idx n x i =>
    have hx := hx.1
    cases e : g x <;> rw [e] at he hx
    case lst =>
      unfold eIdx at he ⊢
      split at he
      · exact he
      · rename_i e1 _; cases e1
      · exact he.elim
    case sl r j m =>
      unfold eIdx at he ⊢
      split at he
      · rename_i e1 _; cases e1
      · rename_i e1 _; cases e1
        rw [← h.at (hx r (by simp [AV.ments]))]; exact he
      · exact he.elim
    all_goals exact he.elim
  case call f xs =>
    refine callA_keep h (fun r hr => ?_) he hnew
    obtain ⟨c, hc, hr⟩ := mentsL_mem.1 hr
    obtain ⟨x, hx', rfl⟩ := List.mem_map.1 hc
    exact hx x hx' r hr
  case dyn x xs =>
    have hx0 := hx.1
    cases e : g x <;> rw [e] at he hx0 <;> simp only [eDyn] at he ⊢
    case fn f cs =>
      refine callA_keep h (fun r hr => ?_) he hnew
      obtain ⟨c, hc, hr⟩ := mentsL_mem.1 hr
      rw [List.mem_append] at hc
      rcases hc with hc | hc
      · obtain ⟨x, hx', rfl⟩ := List.mem_map.1 hc
        exact hx.2 x hx' r hr
      · exact hx0 r (by simp only [AV.ments]; exact mentsL_mem.2 ⟨c, hc, hr⟩)
  case len x =>
    cases e : g x <;> rw [e] at he hx <;> simp only [eLen] at he ⊢
    case lst => exact he
    case tg => exact he
    case sl r i m => rw [← h.at (hx r (by simp [AV.ments]))]; exact he
  case nilc x =>
    cases e : g x <;> rw [e] at he hx <;> simp only [eNil] at he ⊢
    case bp => exact he
    case pt r i off => rw [← h.at (hx r (by simp [AV.ments]))]; exact he

theorem new_nil {ρ : Nat → Option Row} {w : AV} (h : One v u w []) : ∀ p ∈ u, ρ p.1 = none := by
  intro p hp; rw [← h.2] at hp; cases hp
theorem new_d {w : AV} {row : Row} (hd : ρ d = none) (h : One v u w [(d, row)]) : ∀ p ∈ u, ρ p.1 = none := by
  intro p hp; rw [← h.2] at hp; rw [List.mem_singleton.1 hp]; exact hd

theorem eff_new {op : AOp} (hc : op.calm = true) (he : eff ok g ρ d op (One v u)) : ∀ p ∈ u, ρ p.1 = none := by
  cases op <;> simp [AOp.calm] at hc <;> simp only [eff] at he
  case alloc z => exact new_d he.1 he.2
  case box n x => exact new_d he.1 he.2.2
  case bsl n fr ps =>
    have := he.2.2.2.2
    rw [he.1 hc] at this
    exact new_d he.2.1 this
  case load n ag x =>
    cases e : g x <;> rw [e] at he <;> simp only [eLoad] at he
    case bp => obtain ⟨y, _, h⟩ := opt_sm he; exact new_nil h
    case pt r i off =>
      unfold eLoadPt at he
      split at he
      · obtain ⟨y, _, h⟩ := opt_sm he.2; exact new_nil h
      · obtain ⟨y, _, h⟩ := opt_sm he
        obtain ⟨y, _, h⟩ := opt_sm h; exact new_nil h
      · exact he.elim
  case mks n z bytes l c =>
    unfold eMks at he
    split at he
    · exact new_d he.1 he.2.2.2.2.2.2
    · exact he.elim
  case slc n x lo hi mx =>
    unfold eSlc at he
    split at he
    · obtain ⟨_, _, _, _, _, he⟩ := he
      split at he
      · exact new_nil he
      · exact new_nil he.2.2.2
    · exact new_nil he.2.2.2.2.2.2
    · exact he.elim
  case fad off x =>
    unfold eFad at he
    split at he
    · exact new_nil he
    · exact new_nil he.2
    · exact he.elim
  case idx n x i =>
    unfold eIdx at he
    split at he
    · obtain ⟨y, _, h⟩ := opt_sm he.2.2; exact new_nil h
    · exact new_nil he.2.2.2
    · exact he.elim
  case call f xs => obtain ⟨res, _, _, h3, h4⟩ := he; rw [← h4.2]; exact fun p hp => (h3 p hp).1
  case dyn x xs =>
    unfold eDyn at he
    split at he
    · obtain ⟨res, _, _, h3, h4⟩ := he; rw [← h4.2]; exact fun p hp => (h3 p hp).1
    · exact he.elim
  case len x =>
    unfold eLen at he
    split at he
    · exact new_nil he
    · exact new_nil he
    · exact new_nil he.2
    · exact he.elim
  case nilc x =>
    unfold eNil at he
    split at he
    · exact new_nil he
    · exact new_nil he.2
    · exact he.elim

theorem k1_u {x : AV} (h : k1 (One v u) x) : u = [] := h.2.symm
theorem ofI_u {k : IntKind} {m : Int} (h : ofI k m (k1 (One v u))) : u = [] := by
  exact k1_u h

theorem eff_quiet_u {op : AOp} (hc : op.quiet = true) (he : eff ok g ρ d op (One v u)) : u = [] := by
  cases op <;> simp [AOp.quiet] at hc <;> simp only [eff] at he
  case mv x => exact he.2.symm
  case pick c a b =>
    unfold ePick at he
    split at he
    · rename_i t _
      cases t
      · exact (he.2 rfl).2.symm
      · exact (he.1 rfl).2.symm
    · exact he.elim
  case build z ps => exact he.2.2.symm
  case bin op x y =>
    unfold binV at he
    split at he
    · split at he
      · exact ofI_u he.2
      · exact k1_u he.2
      · obtain ⟨_, he⟩ := he
        unfold binInt at he
        split at he
        all_goals first | exact ofI_u he | exact ofI_u he.2 | exact k1_u he | exact k1_u he.2 | exact he.elim
    · split at he
      all_goals first | exact k1_u he | exact he.elim
    · exact he.elim
  case beq neg x y =>
    unfold eBeq at he
    split at he
    · exact he.2.symm
    · exact he.elim
  case un op x =>
    unfold unV at he
    split at he
    · exact ofI_u he
    · exact k1_u he
    · exact he.elim
  case conv k x =>
    unfold eConv at he
    split at he
    · exact he.2.symm
    · exact he.elim
  case mkf f cs => exact he.2.symm
  case slz x lo hi =>
    unfold eSlz at he
    split at he
    · exact he.2.2.2.2.2.symm
    · exact he.elim
  case fld off n ag x =>
    unfold eFld at he
    obtain ⟨y, _, h⟩ := opt_sm he.2
    exact k1_u h
  case stri x i =>
    unfold eStri at he
    split at he
    · obtain ⟨y, _, h⟩ := opt_sm he.2; exact h.2.symm
    · exact he.elim
  case ext x j =>
    unfold eExt at he
    split at he
    · obtain ⟨y, _, h⟩ := opt_sm he; exact k1_u h
    · exact he.elim
  case lenz x =>
    unfold eLenz at he
    split at he
    · exact he.2.symm
    · exact he.elim
  case mn x y =>
    unfold eMn at he
    split at he
    · exact he.2.2.symm
    · exact he.elim
  case mx x y =>
    unfold eMx at he
    split at he
    · exact he.2.2.symm
    · exact he.elim

/-! ### appends in any order -/
def AOp.appy : AOp → Bool
  | .app _ _ _ _ _ => true
  | _ => false
def AOp.still : AOp → Bool
  | .load _ _ _ | .idx _ _ _ | .len _ | .slc _ _ _ _ _ | .alloc _ | .mks _ _ _ _ _ => true
  | .bsl _ fr _ => fr
  | _ => false
theorem still_calm {op : AOp} (h : op.still = true) : op.calm = true := by cases op <;> simp [AOp.still] at h <;> simp [AOp.calm, h]
theorem appy_not {op : AOp} (h : op.appy = true) : op.quiet = false ∧ op.calm = false := by cases op <;> simp [AOp.appy] at h <;> exact ⟨rfl, rfl⟩

theorem eff_still {op : AOp} (hc : op.still = true) (h : ∀ r x y, ρ r = some x → ρ' r = some y → x = y ∨ x = .dead) (hx : ∀ x ∈ op.xs, ∀ r ∈ (g x).ments, (ρ r).isSome ∧ (ρ' r).isSome) (he : eff ok g ρ d op (One v u)) (hnew : ∀ p ∈ u, ρ' p.1 = none) :
    eff ok g ρ' d op (One v u) := by
  have same : ∀ r, (ρ r).isSome ∧ (ρ' r).isSome → ρ r = some .dead ∨ ρ r = ρ' r := by
    intro r hr
    obtain ⟨h1, h2⟩ := hr
    cases e : ρ r with
    | none => rw [e] at h1; cases h1
    | some x => cases e' : ρ' r with
      | none => rw [e'] at h2; cases h2
      | some y =>
        rcases h r x y e e' with e2 | e2
        · right; rw [e2]
        · left; rw [e2]
  cases op <;> simp [AOp.still] at hc <;> simp only [AOp.xs, List.mem_cons, List.not_mem_nil, or_false, forall_eq_or_imp, forall_eq, List.mem_append] at hx <;> simp only [eff] at he ⊢
  case alloc z =>
    obtain ⟨h1, h2, h3⟩ := he
    exact ⟨hnew (d, .var z) (by rw [← h3]; exact List.mem_singleton.2 rfl), h2, h3⟩
  case bsl n fr ps =>
    obtain ⟨h1, h2, h3, h4, h5, h6⟩ := he
    have hm := h1 hc
    have e : (ps.map g).map (lift ρ 2) = (ps.map g).map (lift ρ' 2) := List.map_congr_left fun c hc => lift_congr 2 c fun r hr => by
      have := mentsL_mem.2 ⟨c, hc, hr⟩
      rw [hm] at this; cases this
    refine ⟨h1, hnew (d, .arr n ((ps.map g).map (lift ρ 2))) (by rw [← h6]; exact List.mem_append_right _ (List.mem_singleton.2 rfl)), h3, h4, h5, ?_⟩
    rw [← e]; exact h6
  case load n ag x =>
    cases e : g x <;> rw [e] at he hx <;> simp only [eLoad] at he ⊢
    case bp => exact he
    case pt r i off =>
      rcases same r (hx r (by simp [AV.ments])) with e2 | e2
      · rw [e2] at he; exact he.elim
      · rw [← e2]; exact he
  case mks n z bytes l c =>
    unfold eMks at he ⊢
    split at he
    · obtain ⟨h1, h2, h3, h4, h5, h6, h7, h8⟩ := he
      exact ⟨hnew (d, _) (by rw [← h8]; exact List.mem_singleton.2 rfl), h2, h3, h4, h5, h6, h7, h8⟩
    · exact he.elim
  case slc n x lo hi mx =>
    have hx := hx.1
    cases e : g x <;> rw [e] at he hx <;> simp only [eSlc] at he ⊢
    case lst => exact he
    case sl r i m =>
      rcases same r (hx r (by simp [AV.ments])) with e2 | e2
      · rw [e2] at he; obtain ⟨⟨_, h3⟩, _⟩ := he; cases h3
      · rw [← e2]; exact he
  case idx n x i =>
    have hx := hx.1
    cases e : g x <;> rw [e] at he hx
    case lst =>
      unfold eIdx at he ⊢
      split at he
      · exact he
      · rename_i e1 _; cases e1
      · exact he.elim
    case sl r j m =>
      unfold eIdx at he ⊢
      split at he
      · rename_i e1 _; cases e1
      · rename_i e1 _; cases e1
        rcases same r (hx r (by simp [AV.ments])) with e2 | e2
        · rw [e2] at he; obtain ⟨⟨_, h3⟩, _⟩ := he; cases h3
        · rw [← e2]; exact he
      · exact he.elim
    all_goals exact he.elim
  case len x =>
    cases e : g x <;> rw [e] at he hx <;> simp only [eLen] at he ⊢
    case lst => exact he
    case tg => exact he
    case sl r i m =>
      rcases same r (hx r (by simp [AV.ments])) with e2 | e2
      · rw [e2] at he; obtain ⟨⟨_, _, h3⟩, _⟩ := he; cases h3
      · rw [← e2]; exact he

theorem appY_u {n : Nat} {mv : Bool} {y : AV} {q : List AV × List (Nat × Row)} (h : appY ρ n mv y = some q) : ∀ p ∈ q.2, p.2 = .dead ∧ ∃ w es, ρ p.1 = some (.arr w es) := by
  have hcp : ∀ o, appCp o = some q → q.2 = [] := by
    intro o h
    cases o <;> simp [appCp] at h
    rw [← h]
  unfold appY at h
  split at h
  · rename_i r m
    cases e : ρ r with
    | none => rw [e] at h; cases h
    | some row =>
      rw [e] at h
      cases row with
      | arr w ys =>
        simp only [appMv] at h
        split at h
        · cases h
          intro p hp
          rw [List.mem_singleton.1 hp]
          exact ⟨rfl, w, ys, e⟩
        · cases h
      | dead => cases h
      | var x => cases h
  · rw [hcp _ h]; intro p hp; cases hp
theorem appY_keep {n : Nat} {mv : Bool} {y : AV} {q : List AV × List (Nat × Row)} (hk : ∀ r x, ρ r = some x → ρ' r = some x) (h : appY ρ n mv y = some q) : appY ρ' n mv y = some q := by
  have hel : ∀ z, elems n ρ y = some z → elems n ρ' y = some z := by
    intro z hz
    cases y <;> simp only [elems] at hz ⊢ <;> try exact hz
    rename_i r i k
    cases e : ρ r with
    | none => rw [e] at hz; cases hz
    | some x => rw [hk r x e]; rw [e] at hz; exact hz
  have hcp : appCp (elems n ρ y) = some q → appCp (elems n ρ' y) = some q := by
    intro h
    cases e : elems n ρ y with
    | none => rw [e] at h; cases h
    | some z => rw [hel z e, ← e]; exact h
  unfold appY at h ⊢
  split at h
  · rename_i r m
    cases e : ρ r with
    | none => rw [e] at h; cases h
    | some row => rw [hk r row e, ← e]; exact h
  · exact hcp h
/-- an append: what it changes -/
theorem eff_app_u {op : AOp} (hc : op.appy = true) (he : eff ok g ρ d op (One v u)) : ∀ p ∈ u, ρ p.1 = none ∨ p.2 = .dead ∧ ∃ w es, ρ p.1 = some (.arr w es) := by
  cases op <;> simp [AOp.appy] at hc
  rename_i n bytes mv x y
  simp only [eff] at he
  unfold eApp at he
  split at he
  · obtain ⟨h1, h2⟩ := he
    obtain ⟨q, hq, h3⟩ := opt_sm h2
    unfold appSl at h3
    split at h3
    · rename_i w es hr
      obtain ⟨_, _, _, h4⟩ := h3
      intro p hp
      rw [← h4.2] at hp
      simp only [List.cons_append, List.mem_cons, List.mem_append, List.not_mem_nil, or_false] at hp
      rcases hp with rfl | hp | rfl
      · exact .inr ⟨rfl, w, es, hr⟩
      · exact .inr (appY_u hq p hp)
      · exact .inl h1
    · exact h3.elim
  · obtain ⟨h1, h2⟩ := he
    obtain ⟨q, hq, h3⟩ := opt_sm h2
    obtain ⟨_, _, _, h4⟩ := h3
    intro p hp
    rw [← h4.2] at hp
    simp only [List.mem_append, List.mem_cons, List.not_mem_nil, or_false] at hp
    rcases hp with hp | rfl
    · exact .inr (appY_u hq p hp)
    · exact .inl h1
  · exact he.elim
theorem eff_app_keep {op : AOp} (hc : op.appy = true) (hk : ∀ r x, ρ r = some x → ρ' r = some x) (he : eff ok g ρ d op (One v u)) (hnew : ∀ p ∈ u, ρ p.1 = none → ρ' p.1 = none) : eff ok g ρ' d op (One v u) := by
  cases op <;> simp [AOp.appy] at hc
  rename_i n bytes mv x y
  simp only [eff] at he ⊢
  unfold eApp at he ⊢
  split at he
  · obtain ⟨h1, h2⟩ := he
    obtain ⟨q, hq, h3⟩ := opt_sm h2
    rw [appY_keep hk hq]
    unfold appSl at h3
    split at h3
    · rename_i w es hr
      obtain ⟨a1, a2, a3, h4⟩ := h3
      refine ⟨hnew _ (by rw [← h4.2]; exact List.mem_append_right _ (List.mem_singleton.2 rfl)) h1, ?_⟩
      simp only [opt]
      rw [hk _ _ hr]
      exact ⟨a1, a2, a3, h4⟩
    · exact h3.elim
  · obtain ⟨h1, h2⟩ := he
    obtain ⟨q, hq, h3⟩ := opt_sm h2
    rw [appY_keep hk hq]
    have h4 := h3.2.2.2
    exact ⟨hnew _ (by rw [← h4.2]; exact List.mem_append_right _ (List.mem_singleton.2 rfl)) h1, h3⟩
  · exact he.elim
end Vs

/- Regions, part 3: the trace of a region; any order of it. -/
namespace Vs
open Go Go.RowKit

variable {P : Program} {n : Nat} {w0 : World} {S0 : Fx} {σ τ : St} {a : Act} {w w' : World} {tag tag' : Nat → Tag} {β β' : Nat → Option Own}

/-! ### states that look alike -/
structure Eqv (σ τ : St) : Prop where
  env : ∀ s, look s σ.env = look s τ.env
  rows : ∀ r, look r σ.rows = look r τ.rows

theorem Eqv.refl (σ : St) : Eqv σ σ := ⟨fun _ => rfl, fun _ => rfl⟩
theorem Eqv.symm (h : Eqv σ τ) : Eqv τ σ := ⟨fun s => (h.env s).symm, fun s => (h.rows s).symm⟩
theorem Eqv.trans {υ : St} (h : Eqv σ τ) (h' : Eqv τ υ) : Eqv σ υ := ⟨fun s => (h.env s).trans (h'.env s), fun s => (h.rows s).trans (h'.rows s)⟩
theorem Eqv.get (h : Eqv σ τ) : σ.get = τ.get := funext fun s => by simp only [St.get, h.env]
theorem Eqv.row (h : Eqv σ τ) : σ.row = τ.row := funext fun s => by simp only [St.row, h.rows]
theorem Eqv.gx (h : Eqv σ τ) : σ.gx = τ.gx := funext fun x => by cases x <;> simp only [St.gx, h.get]

theorem RR.eqv (h : RR n w0 S0 σ a w tag β) (e : Eqv σ τ) : RR n w0 S0 τ a w tag β where
  nn := h.nn
  frm := h.frm
  keep := h.keep
  kimm := h.kimm
  bk := fun r hr hl => h.bk r hr (by rw [e.rows]; exact hl)
  below := h.below
  sz := h.sz
  nodef := h.nodef
  s0lt := h.s0lt
  lt := h.lt
  old := h.old
  env := fun k x hk => by
    rw [← e.env] at hk
    obtain ⟨h1, h2⟩ := h.env k x hk
    exact ⟨h1, fun r hr => by rw [← e.rows]; exact h2 r hr⟩
  rows := fun r => by rw [← e.rows]; exact h.rows r
  wfr := fun r x hr q hq => by
    rw [← e.rows] at hr ⊢
    exact h.wfr r x hr q hq
theorem R.eqv (h : R n w0 S0 σ a w) (e : Eqv σ τ) : R n w0 S0 τ a w := let ⟨tag, β, h⟩ := h; ⟨tag, β, h.eqv e⟩

theorem look_putAll (r : Nat) : ∀ (u rows : List (Nat × Row)), look r (putAll u rows) = (look r (putAll u [])).or (look r rows)
  | [], rows => by simp [putAll, look]
  | p :: u, rows => by
    have e : ∀ rows, putAll (p :: u) rows = putAll u (put p.1 p.2 rows) := fun _ => rfl
    rw [e, e, look_putAll r u (put p.1 p.2 rows), look_putAll r u (put p.1 p.2 []), look_put, look_put]
    split <;> cases look r (putAll u []) <;> simp [look]

theorem luk_some {r : Nat} : ∀ {u : List (Nat × Row)}, look r (putAll u []) ≠ none → ∃ p ∈ u, p.1 = r
  | [], h => by simp [putAll, look] at h
  | p :: u, h => by
    have e : putAll (p :: u) [] = putAll u (put p.1 p.2 []) := rfl
    rw [e, look_putAll] at h
    by_cases hu : look r (putAll u []) = none
    · rw [hu, look_put] at h
      by_cases hp : r = p.1
      · exact ⟨p, by simp, hp.symm⟩
      · simp [hp, look] at h
    · obtain ⟨q, hq, hr⟩ := luk_some hu
      exact ⟨q, by simp [hq], hr⟩

theorem luk_mem {p : Nat × Row} : ∀ {u : List (Nat × Row)}, p ∈ u → look p.1 (putAll u []) ≠ none
  | [], h => by cases h
  | q :: u, h => by
    have e : putAll (q :: u) [] = putAll u (put q.1 q.2 []) := rfl
    rw [e, look_putAll]
    cases h with
    | head =>
      rw [look_put]
      cases look p.1 (putAll u []) <;> simp
    | tail _ h =>
      have := luk_mem h
      cases hl : look p.1 (putAll u []) with
      | none => exact (this hl).elim
      | some x => simp

/-! ### overrides -/
def fo {α : Type} : List (Option α) → Nat → (Nat → Bool) → Option α → Option α
  | [], _, _, acc => acc
  | f :: fs, k, D, acc => fo fs (k + 1) D (if D k then f.or acc else acc)

theorem fo_congr {α : Type} {D D' : Nat → Bool} : ∀ (fs : List (Option α)) (k : Nat) (acc : Option α), (∀ j x, fs[j]? = some (some x) → D (k + j) = D' (k + j)) → fo fs k D acc = fo fs k D' acc
  | [], k, acc, _ => rfl
  | f :: fs, k, acc, h => by
    simp only [fo]
    have e : (if D k then f.or acc else acc) = if D' k then f.or acc else acc := by
      cases f with
      | none => simp
      | some x => rw [show D k = D' k from h 0 x rfl]
    rw [e]
    exact fo_congr fs (k + 1) _ fun j x hj => by
      have := h (j + 1) x (by simpa using hj)
      rwa [show k + (j + 1) = k + 1 + j by omega] at this

theorem fo_none {α : Type} {D : Nat → Bool} : ∀ (fs : List (Option α)) (k : Nat) (acc : Option α), (∀ j, k ≤ j → D j = false) → fo fs k D acc = acc
  | [], k, acc, _ => rfl
  | f :: fs, k, acc, h => by
    simp only [fo, h k (Nat.le_refl _), Bool.false_eq_true, if_false]
    exact fo_none fs (k + 1) acc fun j hj => h j (by omega)

theorem fo_some {α : Type} {D : Nat → Bool} : ∀ (fs : List (Option α)) (k : Nat) (acc : Option α), fo fs k D acc ≠ none → acc ≠ none ∨ ∃ j x, fs[j]? = some (some x) ∧ D (k + j) = true
  | [], k, acc, h => .inl h
  | f :: fs, k, acc, h => by
    simp only [fo] at h
    rcases fo_some fs (k + 1) _ h with h | ⟨j, x, h1, h2⟩
    · by_cases hD : D k = true
      · cases f with
        | none => left; simpa [hD] using h
        | some x => exact .inr ⟨0, x, rfl, hD⟩
      · left; simpa [hD] using h
    · exact .inr ⟨j + 1, x, by simpa using h1, by rwa [show k + (j + 1) = k + 1 + j by omega]⟩

theorem fo_isSome {α : Type} {D : Nat → Bool} : ∀ (fs : List (Option α)) (k : Nat) (acc : Option α), acc ≠ none → fo fs k D acc ≠ none
  | [], k, acc, h => h
  | f :: fs, k, acc, h => by
    simp only [fo]
    refine fo_isSome fs (k + 1) _ ?_
    split
    · cases f <;> simp [h]
    · exact h

theorem fo_at {α : Type} {D : Nat → Bool} : ∀ (fs : List (Option α)) (k : Nat) (acc : Option α) (j : Nat) (x : α), fs[j]? = some (some x) → D (k + j) = true → fo fs k D acc ≠ none
  | [], k, acc, j, x, h, _ => by simp at h
  | f :: fs, k, acc, 0, x, h, hD => by
    simp at h; subst h
    simp only [fo]
    refine fo_isSome fs (k + 1) _ ?_
    simp [show D k = true from hD]
  | f :: fs, k, acc, j + 1, x, h, hD => by
    simp only [fo]
    exact fo_at fs (k + 1) _ j x (by simpa using h) (by rwa [show k + 1 + j = k + (j + 1) by omega])

theorem or_comm' {α : Type} {f g : Option α} {acc : Option α} (h : f = none ∨ g = none) : f.or (g.or acc) = g.or (f.or acc) := by
  rcases h with rfl | rfl <;> simp

/-- what comes late and meets nothing may come last -/
theorem fo_late {α : Type} {D : Nat → Bool} {g : Option α} : ∀ (fs : List (Option α)) (k : Nat) (acc : Option α), (∀ j f, fs[j]? = some f → D (k + j) = true → f = none ∨ g = none) → fo fs k D (g.or acc) = g.or (fo fs k D acc)
  | [], k, acc, _ => rfl
  | f :: fs, k, acc, h => by
    simp only [fo]
    have e : (if D k then f.or (g.or acc) else g.or acc) = g.or (if D k then f.or acc else acc) := by
      split
      · rename_i hD; exact or_comm' (h 0 f rfl hD)
      · rfl
    rw [e]
    exact fo_late fs (k + 1) _ fun j f' hj hD => h (j + 1) f' (by simpa using hj) (by rwa [show k + (j + 1) = k + 1 + j by omega])

theorem fo_ins {α : Type} {D D' : Nat → Bool} : ∀ (fs : List (Option α)) (k : Nat) (acc : Option α) (i : Nat) (g : Option α), fs[i]? = some g → D (k + i) = false → (∀ j, D' j = (D j || j == k + i)) →
    (∀ j f, i < j → fs[j]? = some f → D (k + j) = true → f = none ∨ g = none) → fo fs k D' acc = g.or (fo fs k D acc)
  | [], k, acc, i, g, h, _, _, _ => by simp at h
  | f :: fs, k, acc, 0, g, h, hD, hD', hx => by
    simp at h; subst h
    simp only [fo]
    have h1 : D' k = true := by rw [hD']; simp
    have h2 : D k = false := hD
    simp only [h1, h2, if_true, Bool.false_eq_true, if_false]
    have e : fo fs (k + 1) D' (f.or acc) = fo fs (k + 1) D (f.or acc) := fo_congr _ _ _ fun j x hj => by
      rw [hD', beq_false_of_ne (show k + 1 + j ≠ k + 0 by omega), Bool.or_false]
    rw [e]
    exact fo_late fs (k + 1) acc fun j f' hj hDj => hx (j + 1) f' (by omega) (by simpa using hj) (by rwa [show k + (j + 1) = k + 1 + j by omega])
  | f :: fs, k, acc, i + 1, g, h, hD, hD', hx => by
    simp only [fo]
    have e : D' k = D k := by
      rw [hD']
      have : (k == k + (i + 1)) = false := by simp
      simp [this]
    rw [e]
    exact fo_ins fs (k + 1) _ i g (by simpa using h) (by rwa [show k + 1 + i = k + (i + 1) by omega]) (fun j => by rw [hD', show k + (i + 1) = k + 1 + i by omega])
      fun j f' hij hj hDj => hx (j + 1) f' (by omega) (by simpa using hj) (by rwa [show k + (j + 1) = k + 1 + j by omega])

/-! ### the trace -/
structure Upd where
  d : Option Nat
  v : AV
  u : List (Nat × Row)
def envF (s : Nat) (p : Upd) : Option AV := if p.d = some s then some p.v else none
def rowF (r : Nat) (p : Upd) : Option Row := look r (putAll p.u [])
def St.up (σ : St) (p : Upd) : St := σ.app p.d p.v p.u

theorem up_env (σ : St) (p : Upd) (s : Nat) : look s (σ.up p).env = (envF s p).or (look s σ.env) := by
  simp only [St.up, St.app, envF]
  cases p.d with
  | none => simp
  | some d =>
    simp only [look_put, Option.some.injEq]
    by_cases h : s = d
    · subst h; simp
    · simp [h, Ne.symm h]
theorem up_rows (σ : St) (p : Upd) (r : Nat) : look r (σ.up p).rows = (rowF r p).or (look r σ.rows) := look_putAll r p.u σ.rows

theorem Eqv.up (h : Eqv σ τ) (p : Upd) : Eqv (σ.up p) (τ.up p) := ⟨fun s => by rw [up_env, up_env, h.env], fun r => by rw [up_rows, up_rows, h.rows]⟩

/-- which of the trace's changes have been made -/
structure At (ps : List Upd) (σ0 : St) (D : Nat → Bool) (τ : St) : Prop where
  env : ∀ s, look s τ.env = fo (ps.map (envF s)) 0 D (look s σ0.env)
  rows : ∀ r, look r τ.rows = fo (ps.map (rowF r)) 0 D (look r σ0.rows)

def Did (ok : Oks) (o : AOper) (σ : St) (p : Upd) : Prop :=
  p.d = o.d ∧ (((o.gd = none ∨ ∃ s b, o.gd = some (s, b) ∧ σ.get s = .b b) ∧ eff ok σ.gx σ.row (o.d.getD 0) o.op (One p.v p.u)) ∨
    (∃ s b, o.gd = some (s, b) ∧ (σ.get s = .b (!b) ∨ σ.get s = .tup [])) ∧ p.v = .tup [] ∧ p.u = [])

def finS : List Upd → St → St
  | [], σ => σ
  | p :: ps, σ => finS ps (σ.up p)
def Chain (ok : Oks) : List AOper → List Upd → St → Prop
  | [], [], _ => True
  | o :: os, p :: ps, σ => Did ok o σ p ∧ Chain ok os ps (σ.up p)
  | _, _, _ => False

theorem finS_eqv : ∀ (ps : List Upd) {σ τ : St}, Eqv σ τ → Eqv (finS ps σ) (finS ps τ)
  | [], _, _, h => h
  | p :: ps, _, _, h => finS_eqv ps (h.up p)

theorem Did.eqv {ok : Oks} {o : AOper} {p : Upd} (h : Did ok o σ p) (e : Eqv σ τ) : Did ok o τ p := by
  unfold Did at *
  rw [← e.gx, ← e.row, ← e.get]; exact h
theorem Chain.eqv {ok : Oks} : ∀ {os : List AOper} {ps : List Upd} {σ τ : St}, Chain ok os ps σ → Eqv σ τ → Chain ok os ps τ
  | [], [], _, _, _, _ => trivial
  | _ :: _, p :: _, _, _, h, e => ⟨h.1.eqv e, Chain.eqv h.2 (e.up p)⟩
  | [], _ :: _, _, _, h, _ => h.elim
  | _ :: _, [], _, _, h, _ => h.elim

theorem know_eqv {s : Nat} {b : Bool} (h : σ.get s = .b b) : Eqv σ (σ.know s b) := by
  refine ⟨fun k => ?_, fun _ => rfl⟩
  simp only [St.know, look_put]
  split
  · rename_i e; subst e
    simp only [St.get] at h
    cases hk : look k σ.env with
    | none => rw [hk] at h; cases h
    | some x => rw [hk] at h; simp at h; rw [h]
  · rfl

theorem stOps_chain {ok : Oks} {K : St → Prop} : ∀ (os : List AOper) (σ σ' : St), Eqv σ σ' → stOps ok os K σ → ∃ ps τ, Chain ok os ps σ' ∧ K τ ∧ Eqv τ (finS ps σ')
  | [], σ, σ', e, h => ⟨[], σ, trivial, h, e⟩
  | o :: os, σ, σ', e, h => by
    simp only [stOps, stOp] at h
    have run : ∀ υ : St, Eqv σ υ → (o.gd = none ∨ ∃ s b, o.gd = some (s, b) ∧ σ.get s = .b b) → goOn ok o.d o.op (stOps ok os K) υ → ∃ ps τ, Chain ok (o :: os) ps σ' ∧ K τ ∧ Eqv τ (finS ps σ') := by
      intro υ eυ hg hgo
      obtain ⟨v, u, h1, h2⟩ := (eff_det o.op).one _ hgo
      obtain ⟨ps, τ, h3, h4, h5⟩ := stOps_chain os (υ.app o.d v u) (σ'.up ⟨o.d, v, u⟩) ((eυ.symm.trans e).up ⟨o.d, v, u⟩) h1
      refine ⟨⟨o.d, v, u⟩ :: ps, τ, ⟨⟨rfl, .inl ⟨?_, ?_⟩⟩, h3⟩, h4, h5⟩
      · rw [← e.get]; exact hg
      · rw [← (eυ.symm.trans e).gx, ← (eυ.symm.trans e).row]; exact h2
    cases hgd : o.gd with
    | none => rw [hgd] at h; exact run σ (.refl _) (.inl hgd) h
    | some sb =>
      obtain ⟨s, b⟩ := sb
      rw [hgd] at h
      simp only [guardd] at h
      split at h
      · rename_i t ht
        by_cases htb : t = b
        · subst htb
          exact run _ (know_eqv ht) (.inr ⟨s, t, hgd, ht⟩) (h.1 rfl)
        · have htb' : t = !b := by cases t <;> cases b <;> simp_all
          have hg' : σ.get s = .b (!b) := by rw [ht, htb']
          have ek := know_eqv hg'
          have h2 := h.2 htb'
          simp only [goBy] at h2
          obtain ⟨ps, τ, h3, h4, h5⟩ := stOps_chain os _ (σ'.up ⟨o.d, .tup [], []⟩) ((ek.symm.trans e).up ⟨o.d, .tup [], []⟩) h2
          exact ⟨⟨o.d, .tup [], []⟩ :: ps, τ, ⟨⟨rfl, .inr ⟨⟨s, b, hgd, by rw [← e.get]; exact .inl hg'⟩, rfl, rfl⟩⟩, h3⟩, h4, h5⟩
      · rename_i ht
        simp only [goBy] at h
        obtain ⟨ps, τ, h3, h4, h5⟩ := stOps_chain os _ (σ'.up ⟨o.d, .tup [], []⟩) (e.up ⟨o.d, .tup [], []⟩) h
        exact ⟨⟨o.d, .tup [], []⟩ :: ps, τ, ⟨⟨rfl, .inr ⟨⟨s, b, hgd, by rw [← e.get]; exact .inr ht⟩, rfl, rfl⟩⟩, h3⟩, h4, h5⟩
      · exact h.elim

theorem chain_len {ok : Oks} : ∀ {os : List AOper} {ps : List Upd} {σ : St}, Chain ok os ps σ → os.length = ps.length
  | [], [], _, _ => rfl
  | _ :: _, _ :: _, _, h => by simp [chain_len h.2]
  | [], _ :: _, _, h => h.elim
  | _ :: _, [], _, h => h.elim

theorem chain_at {ok : Oks} : ∀ {os : List AOper} {ps : List Upd} {σ : St} (i : Nat) {o : AOper}, Chain ok os ps σ → os[i]? = some o → ∃ p, ps[i]? = some p ∧ Did ok o (finS (ps.take i) σ) p
  | [], _, _, i, o, _, h => by simp at h
  | _ :: _, [], _, _, _, h, _ => h.elim
  | o' :: os, p :: ps, σ, 0, o, h, ho => by
    simp at ho; subst ho
    exact ⟨p, rfl, h.1⟩
  | o' :: os, p :: ps, σ, i + 1, o, h, ho => by
    obtain ⟨q, h1, h2⟩ := chain_at i h.2 (by simpa using ho)
    exact ⟨q, by simpa using h1, by simpa [finS] using h2⟩

theorem finS_env (s : Nat) : ∀ (ps : List Upd) (i k : Nat) (σ : St) (acc : Option AV), look s σ.env = acc → look s (finS (ps.take i) σ).env = fo (ps.map (envF s)) k (fun j => decide (j < k + i)) acc
  | [], i, k, σ, acc, h => by simpa [finS, fo] using h
  | p :: ps, 0, k, σ, acc, h => by
    rw [fo_none _ _ _ fun j hj => by simp; omega]
    simpa [finS] using h
  | p :: ps, i + 1, k, σ, acc, h => by
    simp only [List.take_succ_cons, finS, List.map_cons, fo]
    rw [finS_env s ps i (k + 1) (σ.up p) ((envF s p).or acc) (by rw [up_env, h])]
    simp only [show k < k + (i + 1) by omega, decide_true, if_true, show k + 1 + i = k + (i + 1) by omega]
theorem finS_rows (s : Nat) : ∀ (ps : List Upd) (i k : Nat) (σ : St) (acc : Option Row), look s σ.rows = acc → look s (finS (ps.take i) σ).rows = fo (ps.map (rowF s)) k (fun j => decide (j < k + i)) acc
  | [], i, k, σ, acc, h => by simpa [finS, fo] using h
  | p :: ps, 0, k, σ, acc, h => by
    rw [fo_none _ _ _ fun j hj => by simp; omega]
    simpa [finS] using h
  | p :: ps, i + 1, k, σ, acc, h => by
    simp only [List.take_succ_cons, finS, List.map_cons, fo]
    rw [finS_rows s ps i (k + 1) (σ.up p) ((rowF s p).or acc) (by rw [up_rows, h])]
    simp only [show k < k + (i + 1) by omega, decide_true, if_true, show k + 1 + i = k + (i + 1) by omega]
theorem at_text (ps : List Upd) (σ : St) (i : Nat) : At ps σ (fun j => decide (j < i)) (finS (ps.take i) σ) :=
  ⟨fun s => by have := finS_env s ps i 0 σ _ rfl; simpa using this, fun r => by have := finS_rows r ps i 0 σ _ rfl; simpa using this⟩

/-! ### one step, concretely -/
theorem wp_ex {P : Program} {o : Oper} {a : Act} {w : World} {next : Act → World → Prop} (h : o.wp P a w next fun _ _ _ => False) : ∃ a' w', next a' w' := by
  unfold Oper.wp at h
  cases hr : (execOp a.eval o).run P w with
  | ok nx w' =>
    rw [hr] at h
    cases nx <;> simp only [Oper.upon] at h
    case value v => exact ⟨_, _, h⟩
    case skip => exact ⟨_, _, h⟩
    case defer d => exact ⟨_, _, h⟩
    case enter f args =>
      obtain ⟨e, w'', _, hR, _⟩ := h []
      cases e with
      | returned v => exact ⟨_, _, hR⟩
      | panicked c => exact hR.elim
      | outgrown => obtain ⟨_, _, hR⟩ := hR; exact hR.elim
    case row row args =>
      obtain ⟨v, w'', hR, _⟩ := h default []
      exact ⟨_, _, hR⟩
  | halt x w' =>
    rw [hr] at h
    cases x <;> simp only [Oper.upon] at h

theorem Did.wanted (h : RR n w0 S0 σ a w tag β) {o : Oper} {ao : AOper} {ops : Array Oper} {p : Upd} (hm : mtcOper P n ops o ao = true) (hd : Did (OkS P) ao σ p) :
    (Region.wanted o (yielded ops a.tmps) = true ∧ Snd P n w0 S0 σ o (One p.v p.u) a w) ∨ (Region.wanted o (yielded ops a.tmps) = false ∧ p.v = .tup [] ∧ p.u = []) := by
  have hm' := hm
  unfold mtcOper at hm
  simp only [Bool.and_eq_true, decide_eq_true_eq] at hm
  obtain ⟨⟨⟨h1, h2⟩, h3⟩, h4⟩ := hm
  have yld : ∀ (s j : Nat) (t : Bool), (ops[j]?).bind (·.dst) = some s → σ.get s = .b t → yielded ops a.tmps j = some t := by
    intro s j t hj hs
    have := (h.get s).1
    rw [hs] at this
    have hv := this.bool_inv
    unfold yielded
    rw [hj]
    simp only [Option.bind_some]
    cases hh : a.tmps[s]? with
    | none => rw [Array.getD_eq_getD_getElem?, hh] at hv; cases hv
    | some x => rw [Array.getD_eq_getD_getElem?, hh] at hv; simp only [Option.getD_some] at hv; rw [hv]
  have yldN : ∀ (s j : Nat), (ops[j]?).bind (·.dst) = some s → σ.get s = .tup [] → ∀ b, (yielded ops a.tmps j == some b) = false := by
    intro s j hj hs b
    have := (h.get s).1
    rw [hs] at this
    obtain ⟨vs, hv, hz, _⟩ := this.tup_inv
    have : vs = #[] := Array.eq_empty_of_size_eq_zero (by simpa using hz)
    subst this
    unfold yielded
    rw [hj]
    simp only [Option.bind_some]
    cases hh : a.tmps[s]? with
    | none => simp
    | some x =>
      rw [Array.getD_eq_getD_getElem?, hh] at hv
      simp only [Option.getD_some] at hv; rw [hv]; rfl
  obtain ⟨_, hd⟩ := hd
  rcases hd with ⟨hg, he⟩ | ⟨⟨s, b, hg, hs⟩, hv, hu⟩
  · left
    refine ⟨?_, eff_sound h hm' he⟩
    unfold Region.wanted
    rcases hg with hg | ⟨s, b, hg, hs⟩
    · rw [hg] at h4
      split at h4
      · rename_i e _; rw [e]
      · cases ‹none = some _›
      · cases h4
    · rw [hg] at h4
      split at h4
      · cases ‹some _ = none›
      · rename_i j b' s' b'' e1 e2
        cases e2
        simp only [Bool.and_eq_true, decide_eq_true_eq, beq_iff_eq] at h4
        rw [e1]
        simp only [yld s j b h4.1 hs, h4.2, beq_self_eq_true]
      · cases h4
  · right
    refine ⟨?_, hv, hu⟩
    unfold Region.wanted
    rw [hg] at h4
    split at h4
    · cases ‹some _ = none›
    · rename_i j b' s' b'' e1 e2
      cases e2
      simp only [Bool.and_eq_true, decide_eq_true_eq, beq_iff_eq] at h4
      rw [e1]
      rcases hs with hs | hs
      · simp only [yld s j _ h4.1 hs, h4.2]
        cases b <;> rfl
      · exact yldN s j h4.1 hs _
    · cases h4

theorem Did.step (h : RR n w0 S0 σ a w tag β) {o : Oper} {ao : AOper} {ops : Array Oper} {p : Upd} (hm : mtcOper P n ops o ao = true) (hd : Did (OkS P) ao σ p) {K : Act → World → Prop} {Q : Exit → Act → World → Prop}
    (hK : ∀ a' w', R n w0 S0 (σ.up p) a' w' → K a' w') :
    if Region.wanted o (yielded ops a.tmps) then o.wp P a w K Q ∨ (o.asks P a w ∧ LetsOut Q) else K (a.put o.dst undef) w := by
  have hm' := hm
  unfold mtcOper at hm
  simp only [Bool.and_eq_true, decide_eq_true_eq] at hm
  have hpd : p.d = o.dst := hd.1.trans hm.1.1.1.symm
  rcases hd.wanted h hm' with ⟨hw, hs⟩ | ⟨hw, hv, hu⟩
  · rw [if_pos hw]
    refine .inl (hs K Q fun a' w' x u hxu hR => hK a' w' ?_)
    obtain ⟨rfl, rfl⟩ := hxu
    simpa only [St.up, hpd] using hR
  · rw [if_neg (by simp [hw])]
    refine hK _ _ ?_
    simp only [St.up, hpd, hv, hu]
    cases hdst : o.dst with
    | none => exact ⟨tag, β, by simpa [St.app, putAll, Act.put] using h⟩
    | some d =>
      have hlt : d < n := by
        have := hm.1.2
        rw [← hm.1.1.1, hdst] at this
        simp at this
        exact this.1
      exact ⟨tag, β, h.step hlt (.tup #[] [] rfl (by simp)) (by simp [St.dom, AV.ments, mentsL])⟩

theorem Did.exists (h : RR n w0 S0 σ a w tag β) {o : Oper} {ao : AOper} {ops : Array Oper} {p : Upd} (hm : mtcOper P n ops o ao = true) (hd : Did (OkS P) ao σ p) : ∃ a' w', R n w0 S0 (σ.up p) a' w' := by
  have := Did.step (K := fun a' w' => R n w0 S0 (σ.up p) a' w') (Q := fun _ _ _ => False) h hm hd (fun _ _ h => h)
  split at this
  · rcases this with h | ⟨_, _, _, h⟩
    · exact wp_ex h
    · exact h.elim
  · exact ⟨_, _, this⟩

theorem chain_R {ops : Array Oper} : ∀ {os : List Oper} {aos : List AOper} {ps : List Upd} {σ : St}, Chain (OkS P) aos ps σ → mtcOpers P n ops os aos = true → (∃ a w, R n w0 S0 σ a w) → ∀ i, ∃ a w, R n w0 S0 (finS (ps.take i) σ) a w
  | _, [], [], σ, _, _, hR, i => by simpa [finS] using hR
  | _, [], _ :: _, σ, h, _, _, _ => h.elim
  | _, _ :: _, [], σ, h, _, _, _ => h.elim
  | [], _ :: _, _ :: _, σ, _, hm, _, _ => by simp [mtcOpers] at hm
  | o :: os, ao :: aos, p :: ps, σ, h, hm, hR, 0 => by simpa [finS] using hR
  | o :: os, ao :: aos, p :: ps, σ, h, hm, hR, i + 1 => by
    simp only [mtcOpers, Bool.and_eq_true] at hm
    obtain ⟨a, w, tag, β, hRR⟩ := hR
    have := chain_R h.2 hm.2 (h.1.exists hRR hm.1) i
    simpa [finS] using this
end Vs

/- Regions, part 4: in the order of the text; in any order. -/
namespace Vs
open Go Go.RowKit

variable {P : Program} {n : Nat} {w0 : World} {S0 : Fx} {σ τ : St} {a : Act} {w w' : World} {tag tag' : Nat → Tag} {β β' : Nat → Option Own}

theorem mtcOpers_at {ops : Array Oper} : ∀ {os : List Oper} {aos : List AOper} (i : Nat) {o : Oper}, mtcOpers P n ops os aos = true → os[i]? = some o → ∃ ao, aos[i]? = some ao ∧ mtcOper P n ops o ao = true
  | [], _, i, o, _, h => by simp at h
  | _ :: _, [], _, _, h, _ => by simp [mtcOpers] at h
  | o' :: os, ao :: aos, 0, o, h, ho => by
    simp only [mtcOpers, Bool.and_eq_true] at h
    simp at ho; subst ho
    exact ⟨ao, rfl, h.1⟩
  | o' :: os, ao :: aos, i + 1, o, h, ho => by
    simp only [mtcOpers, Bool.and_eq_true] at h
    obtain ⟨x, h1, h2⟩ := mtcOpers_at i h.2 (by simpa using ho)
    exact ⟨x, by simpa using h1, h2⟩
theorem mtcOpers_len {ops : Array Oper} : ∀ {os : List Oper} {aos : List AOper}, mtcOpers P n ops os aos = true → os.length = aos.length
  | [], [], _ => rfl
  | [], _ :: _, h => by simp [mtcOpers] at h
  | _ :: _, [], h => by simp [mtcOpers] at h
  | o :: os, ao :: aos, h => by
    simp only [mtcOpers, Bool.and_eq_true] at h
    simp [mtcOpers_len h.2]

theorem text_sound {ops : Array Oper} {Q : Exit → Act → World → Prop} : ∀ (m k : Nat) (aos : List AOper) (ps : List Upd) (σ : St) (a : Act) (w : World), k + m = ops.size → mtcOpers P n ops (ops.toList.drop k) aos = true → Chain (OkS P) aos ps σ →
    R n w0 S0 σ a w → (∀ a w, R n w0 S0 (finS ps σ) a w → Q .normal a w) → wpOps P ops Q (List.range' k m) a w
  | 0, k, aos, ps, σ, a, w, hk, hm, hc, hR, hQ => by
    have hd : ops.toList.drop k = [] := List.drop_eq_nil_of_le (by simp; omega)
    rw [hd] at hm
    cases aos with
    | cons x xs => simp [mtcOpers] at hm
    | nil => cases ps with
      | nil => exact hQ _ _ hR
      | cons x xs => exact hc.elim
  | m + 1, k, aos, ps, σ, a, w, hk, hm, hc, hR, hQ => by
    have hlt : k < ops.size := by omega
    have hd : ops.toList.drop k = ops[k] :: ops.toList.drop (k + 1) := by
      rw [List.drop_eq_getElem_cons (by simpa using hlt)]; simp
    rw [hd] at hm
    cases aos with
    | nil => simp [mtcOpers] at hm
    | cons ao aos => cases ps with
      | nil => exact hc.elim
      | cons p ps =>
        simp only [mtcOpers, Bool.and_eq_true] at hm
        obtain ⟨tag, β, hRR⟩ := hR
        simp only [List.range'_succ, wpOps, Array.getElem?_eq_getElem hlt]
        exact Did.step hRR hm.1 hc.1 fun a' w' hR' => text_sound m (k + 1) aos ps _ a' w' (by omega) hm.2 hc.2 hR' hQ

theorem reg_sound {ops : Array Oper} {aos : List AOper} {id : Nat} {Q : Exit → Act → World → Prop} {K : St → Prop} (hm : mtcOpers P n ops ops.toList aos = true) (hR : R n w0 S0 σ a w) (hs : stOps (OkS P) aos K σ)
    (hQ : ∀ τ a w, K τ → R n w0 S0 τ a w → Q .normal a w) : (Code.region id ops false).wp P Q a w := by
  obtain ⟨ps, τ, hc, hK, e⟩ := stOps_chain aos σ σ (.refl σ) hs
  refine wp_region ?_
  rw [List.range_eq_range']
  exact text_sound ops.size 0 aos ps σ a w (by omega) (by simpa using hm) hc hR fun a w h => hQ τ a w hK (h.eqv e.symm)

/-! ### any order -/
def xslot : X → List Nat
  | .t k => [k]
  | .c _ => []
def AOper.slots (o : AOper) : List Nat := o.op.xs.flatMap xslot ++ (match o.gd with | some (s, _) => [s] | none => [])
def apartO (ap : Bool) (a b : AOper) : Bool :=
  (match a.d with | some d => !b.slots.contains d | none => true) && (match b.d with | some d => !a.slots.contains d | none => true) &&
  (a.d.isNone || decide (a.d ≠ b.d)) && (a.op.quiet || b.op.quiet || (a.op.calm && b.op.calm) || (ap && a.op.appy && b.op.still))
def allQca (aos : List AOper) : Bool := aos.all fun o => o.op.quiet || o.op.calm || o.op.appy
def constsOk (o : AOper) : Bool := o.op.xs.all fun x => match x with | .c b => b.ments.isEmpty | .t _ => true
def drwOk (aos : List AOper) (bs : List (List Nat)) : Bool :=
  aos.all constsOk && (List.range aos.length).all fun j => (List.range j).all fun i => (bs.getD j []).contains i ||
    match aos[i]?, aos[j]? with | some x, some y => apartO (allQca aos) x y | _, _ => true
def edgesOk (ops : Array Oper) (bs : List (List Nat)) : Bool :=
  (List.range ops.size).all fun j => match ops[j]? with
    | some o => o.after.all (fun e => !Region.binds .any e || decide (e.on < j)) &&
        (bs.getD j []).all fun i => o.after.any fun e => Region.binds .any e && (e.on == i || (bs.getD e.on []).contains i)
    | none => true

structure Apart (x y : AOper) : Prop where
  l : ∀ d, x.d = some d → d ∉ y.slots
  r : ∀ d, y.d = some d → d ∉ x.slots
  n : ∀ d, x.d = some d → y.d ≠ some d
theorem Apart.symm {x y : AOper} (h : Apart x y) : Apart y x := ⟨h.r, h.l, fun d hd e => h.n d e hd⟩
/-- x stands ahead of y in the text -/
def Com (H : Prop) (x y : AOper) : Prop := x.op.quiet = true ∨ y.op.quiet = true ∨ (x.op.calm = true ∧ y.op.calm = true) ∨ (x.op.appy = true ∧ y.op.still = true ∧ H)
theorem apartO_spec {x y : AOper} {ap : Bool} (h : apartO ap x y = true) : Apart x y ∧ Com (ap = true) x y := by
  unfold apartO at h
  simp only [Bool.and_eq_true, Bool.or_eq_true, decide_eq_true_eq] at h
  obtain ⟨⟨⟨h1, h2⟩, h3⟩, h4⟩ := h
  refine ⟨⟨fun d hd => ?_, fun d hd => ?_, fun d hd e => ?_⟩, by unfold Com; rcases h4 with ((h | h) | h) | h <;> simp [h]⟩
  · rw [hd] at h1; simpa using h1
  · rw [hd] at h2; simpa using h2
  · rw [hd, e] at h3; simp at h3
theorem quiet_calm {op : AOp} (h : op.quiet = true) (h' : op.calm = true) : False := by cases op <;> simp [AOp.quiet, AOp.calm] at h h'

theorem drwOk_spec {aos : List AOper} {bs : List (List Nat)} (h : drwOk aos bs = true) {i j : Nat} {x y : AOper} (hij : i < j) (hx : aos[i]? = some x) (hy : aos[j]? = some y) (hb : i ∉ bs.getD j []) : Apart x y ∧ Com (allQca aos = true) x y := by
  unfold drwOk at h
  simp only [Bool.and_eq_true] at h
  replace h := h.2
  simp only [List.all_eq_true, List.mem_range, Bool.or_eq_true] at h
  have := h j (List.getElem?_eq_some_iff.1 hy).1 i hij
  rw [hx, hy] at this
  exact apartO_spec (this.resolve_left (by simpa using hb))

def Dl (l : Array Bool) (i : Nat) : Bool := l.getD i false
/-- with an operation, all before it -/
def Down (ops : Array Oper) (l : Array Bool) : Prop := ∀ (j : Nat) (o : Oper), ops[j]? = some o → Dl l j = true → ∀ e ∈ o.after, Region.binds .any e = true → Dl l e.on = true

theorem down_bs {ops : Array Oper} {bs : List (List Nat)} {l : Array Bool} (he : edgesOk ops bs = true) (hd : Down ops l) : ∀ (m j : Nat) (o : Oper), j < m → ops[j]? = some o → (∀ e ∈ o.after, Region.binds .any e = true → Dl l e.on = true) → ∀ i ∈ bs.getD j [], Dl l i = true
  | 0, _, _, h, _, _, _, _ => by omega
  | m + 1, j, o, hj, ho, hl, i, hi => by
    have he' := he
    unfold edgesOk at he
    simp only [List.all_eq_true, List.mem_range] at he
    have hjs := (Array.getElem?_eq_some_iff.1 ho).1
    have h1 := he j hjs
    rw [ho] at h1
    simp only [Bool.and_eq_true, List.all_eq_true] at h1
    have h2 := h1.2 i hi
    obtain ⟨e, hem, hb⟩ := Array.any_eq_true'.1 h2
    simp only [Bool.and_eq_true, Bool.or_eq_true, beq_iff_eq] at hb
    obtain ⟨hb, hc⟩ := hb
    rcases hc with rfl | hc
    · exact hl e hem hb
    · have hlt : e.on < j := by
        have h3 := h1.1
        rw [Array.all_eq_true_iff_forall_mem] at h3
        have := h3 e hem
        simp [hb] at this
        exact this
      have hes : e.on < ops.size := by omega
      exact down_bs he' hd m e.on ops[e.on] (by omega) (Array.getElem?_eq_getElem hes) (fun e' he' hb' => hd e.on _ (Array.getElem?_eq_getElem hes) (hl e hem hb) e' he' hb') i (by simpa using hc)

theorem Dl_set {l : Array Bool} {i : Nat} (hi : i < l.size) (j : Nat) : Dl (l.setIfInBounds i true) j = (Dl l j || j == i) := by
  unfold Dl
  by_cases h : i = j
  · subst h; simp [hi]
  · rw [getD_set_ne false h, beq_false_of_ne (Ne.symm h), Bool.or_false]

theorem finS_snoc (p : Upd) : ∀ (xs : List Upd) (σ : St), finS (xs ++ [p]) σ = (finS xs σ).up p
  | [], _ => rfl
  | x :: xs, σ => finS_snoc p xs (σ.up x)
theorem finS_next {ps : List Upd} {j : Nat} {p : Upd} (h : ps[j]? = some p) (σ : St) : finS (ps.take (j + 1)) σ = (finS (ps.take j) σ).up p := by
  rw [List.take_add_one, h]; exact finS_snoc p _ σ
theorem luk_val {r : Nat} {z : Row} : ∀ {u : List (Nat × Row)}, look r (putAll u []) = some z → (r, z) ∈ u
  | [], h => by simp [putAll, look] at h
  | p :: u, h => by
    have e : putAll (p :: u) [] = putAll u (put p.1 p.2 []) := rfl
    rw [e, look_putAll] at h
    cases hu : look r (putAll u []) with
    | some x =>
      rw [hu] at h
      simp at h
      subst h
      exact List.mem_cons_of_mem _ (luk_val hu)
    | none =>
      rw [hu, look_put] at h
      by_cases hp : r = p.1
      · subst hp
        simp at h
        subst h
        exact List.mem_cons_self
      · simp [hp, look] at h
/-- one operation, in a state in which others have gone ahead -/
theorem drw_step {ops : Array Oper} {aos : List AOper} {bs : List (List Nat)} {ps : List Upd} {σ0 : St} (hm : mtcOpers P n ops ops.toList aos = true) (he : edgesOk ops bs = true) (hd : drwOk aos bs = true)
    (hc : Chain (OkS P) aos ps σ0) (hR0 : ∃ a w, R n w0 S0 σ0 a w) {l : Array Bool} (hdn : Down ops l) (hat : At ps σ0 (Dl l) τ) (hτ : RR n w0 S0 τ a w tag β)
    {i : Nat} (hil : i < l.size) {o : Oper} (ho : ops[i]? = some o) (hi : Dl l i = false) (hrd : ∀ e ∈ o.after, Region.binds .any e = true → Dl l e.on = true) :
    ∃ ao p, mtcOper P n ops o ao = true ∧ Did (OkS P) ao τ p ∧ At ps σ0 (Dl (l.setIfInBounds i true)) (τ.up p) := by
  obtain ⟨ao, hao, hmo⟩ := mtcOpers_at i hm (by simpa using ho)
  obtain ⟨p, hp, hdid⟩ := chain_at i hc hao
  -- what has been done, and what is before
  have D1 : ∀ k ok, ops[k]? = some ok → Dl l k = true → i ∉ bs.getD k [] := fun k ok hk hD hmem => by
    have := down_bs he hdn (k + 1) k ok (by omega) hk (fun e hem hb => hdn k ok hk hD e hem hb) i hmem
    rw [hi] at this; cases this
  have D2 : ∀ k ∈ bs.getD i [], Dl l k = true := down_bs he hdn (i + 1) i o (by omega) ho hrd
  have hlen := chain_len hc
  have hlen2 : ops.size = aos.length := by simpa using mtcOpers_len hm
  -- what stands apart
  have bad : ∀ k q, ps[k]? = some q → Dl l k ≠ decide (k < i) → ∃ ak, aos[k]? = some ak ∧ Apart ak ao ∧ (ak.op.quiet = true ∨ ao.op.quiet = true ∨ (ak.op.calm = true ∧ ao.op.calm = true) ∨ (k < i ∧ ak.op.appy = true ∧ ao.op.still = true ∧ allQca aos = true) ∨ (i < k ∧ ao.op.appy = true ∧ ak.op.still = true ∧ allQca aos = true)) ∧ Did (OkS P) ak (finS (ps.take k) σ0) q := by
    intro k q hq hne
    have hk : k < aos.length := by rw [hlen]; exact (List.getElem?_eq_some_iff.1 hq).1
    obtain ⟨q', hq', hdk⟩ := chain_at k hc (List.getElem?_eq_getElem hk)
    rw [hq] at hq'; cases hq'
    rcases Nat.lt_trichotomy k i with h | h | h
    · obtain ⟨b1, b2⟩ := drwOk_spec hd h (List.getElem?_eq_getElem hk) hao fun hmem => by
        rw [D2 k hmem] at hne; simp [h] at hne
      refine ⟨aos[k], List.getElem?_eq_getElem hk, b1, ?_, hdk⟩
      rcases b2 with h1 | h1 | h1 | h1
      · exact .inl h1
      · exact .inr (.inl h1)
      · exact .inr (.inr (.inl h1))
      · exact .inr (.inr (.inr (.inl ⟨h, h1⟩)))
    · subst h; rw [hi] at hne; simp at hne
    · obtain ⟨b1, b2⟩ := drwOk_spec hd h hao (List.getElem?_eq_getElem hk) fun hmem => by
        have hDk : Dl l k = true := by
          cases e : Dl l k with
          | true => rfl
          | false => rw [e] at hne; simp [show ¬ k < i by omega] at hne
        exact D1 k ops[k] (Array.getElem?_eq_getElem (by omega)) hDk hmem
      refine ⟨aos[k], List.getElem?_eq_getElem hk, b1.symm, ?_, hdk⟩
      rcases b2 with h1 | h1 | h1 | h1
      · exact .inr (.inl h1)
      · exact .inl h1
      · exact .inr (.inr (.inl h1.symm))
      · exact .inr (.inr (.inr (.inr ⟨h, h1⟩)))
  -- updates of one kind and another
  have quietU : ∀ {ak : AOper} {υ : St} {q : Upd}, Did (OkS P) ak υ q → ak.op.quiet = true → q.u = [] := by
    intro ak υ q h hq
    rcases h.2 with ⟨_, h⟩ | ⟨_, _, h⟩
    · exact eff_quiet_u hq h
    · exact h
  have calmU : ∀ {ak : AOper} {υ : St} {q : Upd}, Did (OkS P) ak υ q → ak.op.calm = true → ∀ r, rowF r q ≠ none → look r υ.rows = none := by
    intro ak υ q h hq r hr
    obtain ⟨x, hx, rfl⟩ := luk_some hr
    rcases h.2 with ⟨_, h⟩ | ⟨_, _, h⟩
    · exact eff_new hq h x hx
    · rw [h] at hx; cases hx
  have rowNil : ∀ {q : Upd} {r : Nat}, q.u = [] → rowF r q = none := by intro q r h; simp [rowF, h, putAll, look]
  -- new for k: nothing before k has it
  have fresh : ∀ {k r : Nat}, look r (finS (ps.take k) σ0).rows = none → look r σ0.rows = none ∧ ∀ j q, j < k → ps[j]? = some q → rowF r q = none := by
    intro k r h
    rw [(at_text ps σ0 k).rows r] at h
    constructor
    · cases e : look r σ0.rows with
      | none => rfl
      | some x => rw [e] at h; exact (fo_isSome _ _ _ (by simp) h).elim
    · intro j q hj hq
      cases e : rowF r q with
      | none => rfl
      | some x => exact (fo_at (ps.map (rowF r)) 0 _ j x (by simp [hq, e]) (by simpa using hj) h).elim
  -- the slots that it looks at
  have hslots : ∀ s ∈ ao.slots, τ.get s = (finS (ps.take i) σ0).get s := by
    intro s hs
    simp only [St.get]
    rw [hat.env, (at_text ps σ0 i).env]
    congr 1
    refine fo_congr _ _ _ fun k x hk => ?_
    simp only [List.getElem?_map, Option.map_eq_some_iff] at hk
    obtain ⟨q, hq, hx⟩ := hk
    simp only [Nat.zero_add]
    by_cases hne : Dl l k = decide (k < i)
    · exact hne
    · obtain ⟨ak, _, hap, _, hdk⟩ := bad k q hq hne
      unfold envF at hx
      split at hx
      · rename_i hqd
        exact (hap.l s (hdk.1.symm.trans hqd) hs).elim
      · cases hx
  have hgx : ∀ x ∈ ao.op.xs, τ.gx x = (finS (ps.take i) σ0).gx x := by
    intro x hx
    cases x with
    | c y => rfl
    | t k => exact hslots k (List.mem_append_left _ (List.mem_flatMap.2 ⟨.t k, hx, by simp [xslot]⟩))
  have hgd : ∀ s b, ao.gd = some (s, b) → τ.get s = (finS (ps.take i) σ0).get s := fun s b h => hslots s (List.mem_append_right _ (by rw [h]; simp))
  obtain ⟨at0, wt0, tagt, βt, hText⟩ := chain_R hc hm hR0 i
  -- the rows
  have hmine : ∀ r, rowF r p ≠ none → ao.op.calm = true → look r τ.rows = none := by
    intro r hr hcal
    have hn := fresh (calmU hdid hcal r hr)
    rw [hat.rows]
    cases e : fo (ps.map (rowF r)) 0 (Dl l) (look r σ0.rows) with
    | none => rfl
    | some x =>
      exfalso
      rcases fo_some (ps.map (rowF r)) 0 _ (by rw [e]; simp : fo (ps.map (rowF r)) 0 (Dl l) (look r σ0.rows) ≠ none) with h | ⟨m, y, h1, h2⟩
      · exact h hn.1
      · simp only [List.getElem?_map, Option.map_eq_some_iff] at h1
        obtain ⟨q, hq, hy⟩ := h1
        simp only [Nat.zero_add] at h2
        have hmi : ¬ m < i := fun h => by rw [hn.2 m q h hq] at hy; cases hy
        obtain ⟨ak, _, _, hap, hdk⟩ := bad m q hq (by rw [h2]; simp [hmi])
        rcases hap with hqq | hqq | ⟨hqq, _⟩ | ⟨hqq, _⟩ | ⟨_, hqq, _⟩
        · rw [rowNil (quietU hdk hqq)] at hy; cases hy
        · exact quiet_calm hqq hcal
        rotate_left
        · exact hmi hqq
        · rw [(appy_not hqq).2] at hcal; cases hcal
        · have hmi' : i < m := by
            rcases Nat.lt_trichotomy i m with h | h | h
            · exact h
            · subst h; rw [hi] at h2; cases h2
            · omega
          exact hr ((fresh (calmU hdk hqq r (by rw [hy]; simp))).2 i p hmi' hp)
  have heff : eff (OkS P) (finS (ps.take i) σ0).gx (finS (ps.take i) σ0).row (ao.d.getD 0) ao.op (One p.v p.u) → eff (OkS P) τ.gx τ.row (ao.d.getD 0) ao.op (One p.v p.u) := by
    intro h
    rw [eff_xs ao.op hgx]
    by_cases hq : ao.op.quiet = true
    · rwa [eff_quiet hq (ρ' := (finS (ps.take i) σ0).row)]
    by_cases hcal : ao.op.calm = true
    · -- not yet done, and yet the row is there
      have late : ∀ (k : Nat) (q : Upd) (ak : AOper) (r : Nat) (y : Row), ps[k]? = some q → aos[k]? = some ak → rowF r q ≠ none → Dl l k = false → ak.op.quiet ≠ true → look r (finS (ps.take k) σ0).rows = none → look r τ.rows = some y → False := by
        intro k q ak r y hkq hak hz hDk hnq hnew hy
        have hn := fresh hnew
        rw [hat.rows] at hy
        rcases fo_some (ps.map (rowF r)) 0 _ (by rw [hy]; simp : fo (ps.map (rowF r)) 0 (Dl l) (look r σ0.rows) ≠ none) with h' | ⟨m, y', h1, h2⟩
        · exact h' hn.1
        · simp only [List.getElem?_map, Option.map_eq_some_iff] at h1
          obtain ⟨qm, hqm, hy'⟩ := h1
          simp only [Nat.zero_add] at h2
          have hkm : k < m := by
            rcases Nat.lt_trichotomy m k with h3 | h3 | h3
            · rw [hn.2 m qm h3 hqm] at hy'; cases hy'
            · subst h3; rw [hDk] at h2; cases h2
            · exact h3
          have hml : m < aos.length := by rw [hlen]; exact (List.getElem?_eq_some_iff.1 hqm).1
          obtain ⟨qm', hqm', hdm⟩ := chain_at m hc (List.getElem?_eq_getElem hml)
          rw [hqm] at hqm'; cases hqm'
          have hmq : aos[m].op.quiet ≠ true := fun e => by rw [rowNil (quietU hdm e)] at hy'; cases hy'
          have hmc : aos[m].op.calm ≠ true := fun e => hz ((fresh (calmU hdm e r (by rw [hy']; simp))).2 k q hkm hkq)
          have hmi : m < i := by
            rcases Nat.lt_or_ge m i with h3 | h3
            · exact h3
            · obtain ⟨am, ham, _, hapm, _⟩ := bad m qm hqm (by rw [h2]; simp [show ¬ m < i by omega])
              rw [List.getElem?_eq_getElem hml] at ham; cases ham
              rcases hapm with h4 | h4 | ⟨h4, _⟩ | ⟨h4, _⟩ | ⟨_, h4, _⟩
              · exact (hmq h4).elim
              · exact (hq h4).elim
              · exact (hmc h4).elim
              · exact h4
              · rw [(appy_not h4).2] at hcal; cases hcal
          have hkl : k < aos.length := by rw [hlen]; exact (List.getElem?_eq_some_iff.1 hkq).1
          rw [List.getElem?_eq_getElem hkl] at hak
          cases hak
          have hkbm : k ∈ bs.getD m [] := by
            apply Decidable.byContradiction
            intro hnb
            rcases (drwOk_spec hd hkm (List.getElem?_eq_getElem hkl) (List.getElem?_eq_getElem hml) hnb).2 with h4 | h4 | ⟨_, h4⟩ | ⟨_, h4, _⟩
            · exact hnq h4
            · exact hmq h4
            · exact hmc h4
            · exact hmc (still_calm h4)
          have hms : m < ops.size := by omega
          have := down_bs he hdn (m + 1) m ops[m] (by omega) (Array.getElem?_eq_getElem hms) (fun e hem hb => hdn m _ (Array.getElem?_eq_getElem hms) h2 e hem hb) k hkbm
          rw [hDk] at this; cases this
      have hagree : ∀ r x y, (finS (ps.take i) σ0).row r = some x → τ.row r = some y → x = y ∨ (x = .dead ∧ ao.op.still = true) := by
        intro r x y hx hy
        by_cases hB : ∃ k q ak, ps[k]? = some q ∧ rowF r q ≠ none ∧ Dl l k = false ∧ k < i ∧ aos[k]? = some ak ∧ ak.op.appy = true ∧ ao.op.still = true ∧ allQca aos = true
        · obtain ⟨k, q, ak, hkq, hz, hDk, hki, hak, hap, hst, hall⟩ := hB
          right
          refine ⟨?_, hst⟩
          obtain ⟨q', hq', hdk⟩ := chain_at k hc hak
          rw [hkq] at hq'; cases hq'
          have hu : ∀ p ∈ q.u, look p.1 (finS (ps.take k) σ0).rows = none ∨ p.2 = .dead ∧ ∃ w es, look p.1 (finS (ps.take k) σ0).rows = some (.arr w es) := by
            rcases hdk.2 with ⟨_, h⟩ | ⟨_, _, h⟩
            · exact eff_app_u hap h
            · rw [h]; intro p hp; cases hp
          cases ez : rowF r q with
          | none => exact (hz ez).elim
          | some z =>
            rcases hu _ (luk_val ez) with h1 | ⟨h1, _⟩
            · exact (late k q ak r y hkq hak hz hDk (by rw [(appy_not hap).1]; simp) h1 hy).elim
            · simp only at h1
              subst h1
              have stays : ∀ j, k < j → j ≤ i → look r (finS (ps.take j) σ0).rows = some .dead := by
                intro j
                induction j with
                | zero => intro h; omega
                | succ j ih =>
                  intro hkj hji
                  rcases Nat.lt_or_ge k j with h2 | h2
                  · have hj := ih h2 (by omega)
                    have hjl : j < aos.length := by
                      have := (List.getElem?_eq_some_iff.1 hao).1; omega
                    obtain ⟨pj, hpj, hdj⟩ := chain_at j hc (List.getElem?_eq_getElem hjl)
                    rw [finS_next hpj, up_rows, hj]
                    have : rowF r pj = none := by
                      have hkind := hall
                      unfold allQca at hkind
                      simp only [List.all_eq_true, Bool.or_eq_true] at hkind
                      rcases hkind aos[j] (List.getElem_mem hjl) with (h3 | h3) | h3
                      · exact rowNil (quietU hdj h3)
                      · apply Decidable.byContradiction
                        intro h4
                        have := calmU hdj h3 r h4
                        rw [hj] at this; cases this
                      · cases e4 : rowF r pj with
                        | none => rfl
                        | some z4 =>
                          rcases hdj.2 with ⟨_, h⟩ | ⟨_, _, h⟩
                          · rcases eff_app_u h3 h _ (luk_val e4) with h5 | ⟨_, w, es, h5⟩
                            · simp only [St.row] at h5; rw [hj] at h5; cases h5
                            · simp only [St.row] at h5; rw [hj] at h5; cases h5
                          · rw [rowNil h] at e4; cases e4
                    rw [this]; rfl
                  · have : j = k := by omega
                    subst this
                    rw [finS_next hkq, up_rows, ez]; rfl
              have := stays i hki (Nat.le_refl i)
              simp only [St.row] at hx
              rw [this] at hx
              exact (Option.some.inj hx).symm
        left
        have : look r τ.rows = look r (finS (ps.take i) σ0).rows := by
          rw [hat.rows, (at_text ps σ0 i).rows]
          refine fo_congr _ _ _ fun k z hk => ?_
          simp only [List.getElem?_map, Option.map_eq_some_iff] at hk
          obtain ⟨q, hkq, hz⟩ := hk
          simp only [Nat.zero_add]
          by_cases hne : Dl l k = decide (k < i)
          · exact hne
          · exfalso
            obtain ⟨ak, hak, _, hap, hdk⟩ := bad k q hkq hne
            rcases hap with hqq | hqq | ⟨hqq, _⟩ | ⟨h4, hqq, hst, hall⟩ | ⟨_, hqq, _⟩
            · rw [rowNil (quietU hdk hqq)] at hz; cases hz
            · exact hq hqq
            · by_cases hki : k < i
              · have hDk : Dl l k = false := by
                  cases e : Dl l k with
                  | false => rfl
                  | true => rw [e] at hne; simp [hki] at hne
                exact late k q ak r y hkq hak (by rw [hz]; simp) hDk (fun h => quiet_calm h hqq) (calmU hdk hqq r (by rw [hz]; simp)) hy
              · -- done ahead: yet the row was there before
                have hn := fresh (calmU hdk hqq r (by rw [hz]; simp))
                simp only [St.row] at hx
                rw [(at_text ps σ0 i).rows] at hx
                rcases fo_some (ps.map (rowF r)) 0 _ (by rw [hx]; simp : fo (ps.map (rowF r)) 0 (fun j => decide (j < i)) (look r σ0.rows) ≠ none) with h' | ⟨m, y', h1, h2⟩
                · exact h' hn.1
                · simp only [List.getElem?_map, Option.map_eq_some_iff] at h1
                  obtain ⟨qm, hqm, hy'⟩ := h1
                  simp only [Nat.zero_add, decide_eq_true_eq] at h2
                  rw [hn.2 m qm (by omega) hqm] at hy'; cases hy'
            · have hDk : Dl l k = false := by
                cases e : Dl l k with
                | false => rfl
                | true => rw [e] at hne; simp [h4] at hne
              exact hB ⟨k, q, ak, hkq, by rw [hz]; simp, hDk, h4, hak, hqq, hst, hall⟩
            · rw [(appy_not hqq).2] at hcal; cases hcal
        simp only [St.row] at hx hy
        rw [this, hx] at hy
        exact Option.some.inj hy
      have hxs : ∀ x ∈ ao.op.xs, ∀ r ∈ ((finS (ps.take i) σ0).gx x).ments, ((finS (ps.take i) σ0).row r).isSome ∧ (τ.row r).isSome := by
        intro x hx r hr
        have h1 : ∀ {υ : St} {a : Act} {w : World} {tag : Nat → Tag} {β : Nat → Option Own}, RR n w0 S0 υ a w tag β → ∀ y : X, (∀ b, y = .c b → b.ments = []) → ∀ r ∈ (υ.gx y).ments, (υ.row r).isSome := by
          intro υ a w tag β hυ y hy r hr
          cases y with
          | t k => exact (hυ.get k).2 r hr
          | c b => simp only [St.gx] at hr; rw [hy b rfl] at hr; cases hr
        have hcst : ∀ b, x = .c b → b.ments = [] := by
          intro b hb
          subst hb
          unfold drwOk at hd
          simp only [Bool.and_eq_true, List.all_eq_true] at hd
          have := hd.1 ao (List.mem_of_getElem? hao)
          unfold constsOk at this
          simp only [List.all_eq_true] at this
          simpa using this _ hx
        exact ⟨h1 hText x hcst r hr, by rw [← hgx x hx] at hr; exact h1 hτ x hcst r hr⟩
      by_cases hst : ao.op.still = true
      · exact eff_still hst (fun r x y h1 h2 => (hagree r x y h1 h2).imp id fun h => h.1) hxs h fun q hq' => hmine q.1 (luk_mem hq') hcal
      · refine eff_calm hcal ⟨fun r x y h1 h2 => (hagree r x y h1 h2).resolve_right fun h => hst h.2, fun r x h1 h2 q hq' => ⟨hText.wfr r x h1 q hq', hτ.wfr r x h2 q hq'⟩⟩ hxs h (fun q hq' => hmine q.1 (luk_mem hq') hcal)
    by_cases happ : ao.op.appy = true
    · have hcn : ao.op.calm ≠ true := by rw [(appy_not happ).2]; simp
      refine eff_app_keep happ (fun r x hx => ?_) h (fun p' hp' hpn => ?_)
      · have : look r τ.rows = look r (finS (ps.take i) σ0).rows := by
          rw [hat.rows, (at_text ps σ0 i).rows]
          refine fo_congr _ _ _ fun k z hk => ?_
          simp only [List.getElem?_map, Option.map_eq_some_iff] at hk
          obtain ⟨q, hkq, hz⟩ := hk
          simp only [Nat.zero_add]
          by_cases hne : Dl l k = decide (k < i)
          · exact hne
          · exfalso
            obtain ⟨ak, hak, _, hap, hdk⟩ := bad k q hkq hne
            rcases hap with hqq | hqq | ⟨_, hqq⟩ | ⟨_, _, hst, _⟩ | ⟨hik, _, hst, _⟩
            · rw [rowNil (quietU hdk hqq)] at hz; cases hz
            · exact hq hqq
            · exact hcn hqq
            · exact hcn (still_calm hst)
            · have hn := fresh (calmU hdk (still_calm hst) r (by rw [hz]; simp))
              simp only [St.row] at hx
              rw [(at_text ps σ0 i).rows] at hx
              rcases fo_some (ps.map (rowF r)) 0 _ (by rw [hx]; simp : fo (ps.map (rowF r)) 0 (fun j => decide (j < i)) (look r σ0.rows) ≠ none) with h' | ⟨m, y', h1, h2⟩
              · exact h' hn.1
              · simp only [List.getElem?_map, Option.map_eq_some_iff] at h1
                obtain ⟨qm, hqm, hy'⟩ := h1
                simp only [Nat.zero_add, decide_eq_true_eq] at h2
                rw [hn.2 m qm (by omega) hqm] at hy'; cases hy'
        simp only [St.row] at hx ⊢
        rw [this, hx]
      · simp only [St.row] at hpn ⊢
        cases e : look p'.1 τ.rows with
        | none => rfl
        | some y =>
          exfalso
          rw [hat.rows] at e
          rw [(at_text ps σ0 i).rows] at hpn
          rcases fo_some (ps.map (rowF p'.1)) 0 _ (by rw [e]; simp : fo (ps.map (rowF p'.1)) 0 (Dl l) (look p'.1 σ0.rows) ≠ none) with h' | ⟨m, y', h1, h2⟩
          · exact fo_isSome _ _ _ h' hpn
          · have h1' := h1
            simp only [List.getElem?_map, Option.map_eq_some_iff] at h1
            obtain ⟨qm, hqm, hy'⟩ := h1
            simp only [Nat.zero_add] at h2
            have hmi : ¬ m < i := fun h3 => fo_at (ps.map (rowF p'.1)) 0 _ m y' h1' (by simpa using h3) hpn
            obtain ⟨ak, _, _, hap, hdk⟩ := bad m qm hqm (by rw [h2]; simp [hmi])
            rcases hap with hqq | hqq | ⟨_, hqq⟩ | ⟨h3, _⟩ | ⟨him, _, hst, _⟩
            · rw [rowNil (quietU hdk hqq)] at hy'; cases hy'
            · exact hq hqq
            · exact hcn hqq
            · exact hmi h3
            · exact luk_mem hp' ((fresh (calmU hdk (still_calm hst) p'.1 (by rw [hy']; simp))).2 i p him hp)
    · have : τ.row = (finS (ps.take i) σ0).row := by
        funext r
        simp only [St.row]
        rw [hat.rows, (at_text ps σ0 i).rows]
        refine fo_congr _ _ _ fun k z hk => ?_
        simp only [List.getElem?_map, Option.map_eq_some_iff] at hk
        obtain ⟨q, hkq, hz⟩ := hk
        simp only [Nat.zero_add]
        by_cases hne : Dl l k = decide (k < i)
        · exact hne
        · exfalso
          obtain ⟨ak, hak, _, hap, hdk⟩ := bad k q hkq hne
          rcases hap with hqq | hqq | ⟨_, hqq⟩ | ⟨_, _, hqq, _⟩ | ⟨_, hqq, _⟩
          · rw [rowNil (quietU hdk hqq)] at hz; cases hz
          · exact hq hqq
          · exact hcal hqq
          · exact hcal (still_calm hqq)
          · exact happ hqq
      rwa [this]
  refine ⟨ao, p, hmo, ⟨hdid.1, ?_⟩, ⟨fun s => ?_, fun r => ?_⟩⟩
  · rcases hdid.2 with ⟨hg, h⟩ | ⟨⟨s, b, hg, hs⟩, h⟩
    · refine .inl ⟨hg.imp id ?_, heff h⟩
      rintro ⟨s, b, hg, hs⟩
      exact ⟨s, b, hg, (hgd s b hg).trans hs⟩
    · exact .inr ⟨⟨s, b, hg, hs.imp (hgd s b hg).trans (hgd s b hg).trans⟩, h⟩
  · rw [up_env, hat.env]
    refine (fo_ins (ps.map (envF s)) 0 _ i (envF s p) (by simp [hp]) (by simpa using hi) (fun j => by rw [Dl_set hil]; simp) fun j f hij hj hD => ?_).symm
    simp only [List.getElem?_map, Option.map_eq_some_iff] at hj
    obtain ⟨q, hq, rfl⟩ := hj
    simp only [Nat.zero_add] at hD
    obtain ⟨ak, _, hap, _, hdk⟩ := bad j q hq (by rw [hD]; simp; omega)
    unfold envF
    by_cases h1 : q.d = some s
    · right
      rw [if_neg fun h2 => hap.n s (hdk.1.symm.trans h1) (hdid.1.symm.trans h2)]
    · left; rw [if_neg h1]
  · rw [up_rows, hat.rows]
    refine (fo_ins (ps.map (rowF r)) 0 _ i (rowF r p) (by simp [hp]) (by simpa using hi) (fun j => by rw [Dl_set hil]; simp) fun j f hij hj hD => ?_).symm
    simp only [List.getElem?_map, Option.map_eq_some_iff] at hj
    obtain ⟨q, hq, rfl⟩ := hj
    simp only [Nat.zero_add] at hD
    obtain ⟨ak, _, _, hap, hdk⟩ := bad j q hq (by rw [hD]; simp; omega)
    rcases hap with hqq | hqq | ⟨hqq, _⟩ | ⟨hqq, _⟩ | ⟨_, _, hqq, _⟩
    · exact .inl (rowNil (quietU hdk hqq))
    · exact .inr (rowNil (quietU hdid hqq))
    rotate_left
    · omega
    · by_cases e : rowF r q = none
      · exact .inl e
      · exact .inr ((fresh (calmU hdk (still_calm hqq) r e)).2 i p hij hp)
    · by_cases e : rowF r q = none
      · exact .inl e
      · exact .inr ((fresh (calmU hdk hqq r e)).2 i p hij hp)

/-! ### the whole region -/
def cnt : Nat → (Nat → Bool) → Nat
  | 0, _ => 0
  | m + 1, D => cnt m D + if D m then 0 else 1
theorem cnt_set {D D' : Nat → Bool} {i : Nat} (hi : D i = false) (h : ∀ j, D' j = (D j || j == i)) : ∀ m, (i < m → cnt m D' + 1 = cnt m D) ∧ (m ≤ i → cnt m D' = cnt m D)
  | 0 => ⟨fun h => by omega, fun _ => rfl⟩
  | m + 1 => by
    obtain ⟨h1, h2⟩ := cnt_set hi h m
    refine ⟨fun hm => ?_, fun hm => ?_⟩
    · simp only [cnt]
      rcases Nat.lt_or_ge i m with h3 | h3
      · have e : D' m = D m := by rw [h, beq_false_of_ne (show m ≠ i by omega), Bool.or_false]
        rw [e]; have := h1 h3; omega
      · have e : m = i := by omega
        have e' : D' m = true := by rw [h, e]; simp
        have := h2 h3
        rw [e', this, e, hi]; simp
    · simp only [cnt]
      have e : D' m = D m := by rw [h, beq_false_of_ne (show m ≠ i by omega), Bool.or_false]
      rw [e, h2 (by omega)]
theorem cnt_zero {D : Nat → Bool} : ∀ m, cnt m D = 0 → ∀ j, j < m → D j = true
  | 0, _, j, h => by omega
  | m + 1, h, j, hj => by
    simp only [cnt] at h
    rcases Nat.lt_or_ge j m with h1 | h1
    · exact cnt_zero m (by omega) j h1
    · have e : j = m := by omega
      subst e
      cases e : D j with
      | true => rfl
      | false => rw [e] at h; simp at h

theorem drw_any {ops : Array Oper} {aos : List AOper} {bs : List (List Nat)} {ps : List Upd} {σ0 : St} {Q : Exit → Act → World → Prop} (hm : mtcOpers P n ops ops.toList aos = true) (he : edgesOk ops bs = true) (hd : drwOk aos bs = true)
    (hc : Chain (OkS P) aos ps σ0) (hR0 : ∃ a w, R n w0 S0 σ0 a w) (hQ : ∀ a w, R n w0 S0 (finS ps σ0) a w → Q .normal a w) :
    ∀ (fuel : Nat) (l : Array Bool) (τ : St) (a : Act) (w : World), l.size = ops.size → cnt ops.size (Dl l) ≤ fuel → Down ops l → At ps σ0 (Dl l) τ → R n w0 S0 τ a w → wpAny P .any ops Q fuel l a w := by
  have hlen := chain_len hc
  have hlen2 : ops.size = aos.length := by simpa using mtcOpers_len hm
  -- all done
  have done : ∀ (l : Array Bool) (τ : St) (a : Act) (w : World), (∀ j, j < ops.size → Dl l j = true) → At ps σ0 (Dl l) τ → R n w0 S0 τ a w → Q .normal a w := by
    intro l τ a w hall hat hR
    refine hQ a w (hR.eqv ⟨fun s => ?_, fun r => ?_⟩)
    · rw [hat.env]
      have := (at_text ps σ0 ps.length).env s
      rw [List.take_length] at this
      rw [this]
      refine fo_congr _ _ _ fun j x hj => ?_
      have hj' : j < ps.length := by simpa using (List.getElem?_eq_some_iff.1 hj).1
      simp only [Nat.zero_add, hall j (by omega), hj', decide_true]
    · rw [hat.rows]
      have := (at_text ps σ0 ps.length).rows r
      rw [List.take_length] at this
      rw [this]
      refine fo_congr _ _ _ fun j x hj => ?_
      have hj' : j < ps.length := by simpa using (List.getElem?_eq_some_iff.1 hj).1
      simp only [Nat.zero_add, hall j (by omega), hj', decide_true]
  have gd : ∀ (l : Array Bool) (j : Nat), l.size = ops.size → j < ops.size → l.getD j true = Dl l j := by
    intro l j hl hj
    unfold Dl
    simp [Array.getD, show j < l.size by omega]
  -- nothing ready: all done
  have idle : ∀ (l : Array Bool), l.size = ops.size → Region.ready .any ops l = [] → ∀ m j, j < m → j < ops.size → Dl l j = true := by
    intro l hl hr m
    induction m with
    | zero => intro j h; omega
    | succ m ih =>
      intro j hjm hj
      cases hDj : Dl l j with
      | true => rfl
      | false =>
        exfalso
        have : j ∈ Region.ready .any ops l := by
          refine mem_ready.2 ⟨(gd l j hl hj).trans hDj, ops[j], Array.getElem?_eq_getElem hj, fun e hem hb => ?_⟩
          have he' := he
          unfold edgesOk at he'
          simp only [List.all_eq_true, List.mem_range] at he'
          have h1 := he' j hj
          rw [Array.getElem?_eq_getElem hj] at h1
          simp only [Bool.and_eq_true] at h1
          have h3 := h1.1
          rw [Array.all_eq_true_iff_forall_mem] at h3
          have := h3 e hem
          simp [hb] at this
          exact ih e.on (by omega) (by omega)
        rw [hr] at this; cases this
  intro fuel
  induction fuel with
  | zero =>
    intro l τ a w hl hcnt hdn hat hR
    have hall := cnt_zero ops.size (by omega : cnt ops.size (Dl l) = 0)
    refine ⟨List.eq_nil_iff_forall_not_mem.2 fun j hj => ?_, done l τ a w hall hat hR⟩
    obtain ⟨h1, o, ho, _⟩ := mem_ready.1 hj
    have hjs := (Array.getElem?_eq_some_iff.1 ho).1
    rw [gd l j hl hjs, hall j hjs] at h1; cases h1
  | succ fuel ih =>
    intro l τ a w hl hcnt hdn hat hR
    refine ⟨fun hr => done l τ a w (fun j hj => idle l hl hr (j + 1) j (by omega) hj) hat hR, fun i hi => ?_⟩
    obtain ⟨h1, o, ho, hrd⟩ := mem_ready.1 hi
    have his := (Array.getElem?_eq_some_iff.1 ho).1
    rw [gd l i hl his] at h1
    obtain ⟨tag, β, hRR⟩ := hR
    obtain ⟨ao, p, hmo, hdid, hat'⟩ := drw_step hm he hd hc hR0 hdn hat hRR (by omega) ho h1 (fun e hem hb => hrd e hem hb)
    unfold wpOp
    rw [ho]
    refine Did.step hRR hmo hdid fun a' w' hR' => ih _ _ a' w' (by simpa using hl) ?_ ?_ hat' hR'
    · have := (cnt_set (D := Dl l) (D' := Dl (l.setIfInBounds i true)) (i := i) h1 (fun j => Dl_set (by omega) j) ops.size).1 his
      omega
    · intro j oj hoj hDj e hem hb
      rw [Dl_set (by omega)] at hDj ⊢
      simp only [Bool.or_eq_true, beq_iff_eq] at hDj ⊢
      rcases hDj with hDj | rfl
      · exact .inl (hdn j oj hoj hDj e hem hb)
      · rw [ho] at hoj; cases hoj
        exact .inl (hrd e hem hb)

theorem R.drew (h : R n w0 S0 σ a w) : R n w0 S0 σ a { w with drawn := w.drawn + 1 } := by
  obtain ⟨tag, β, h⟩ := h
  refine ⟨tag, β, ?_⟩
  have := h.change (w' := { w with drawn := w.drawn + 1 }) (tag' := tag) (β' := β) (rows' := σ.rows) ⟨⟨rfl, rfl, rfl, Nat.le_refl _, fun _ _ => rfl⟩, fun _ => rfl⟩ (fun b hb => ⟨hb, rfl⟩) h.lt (fun _ _ _ => ⟨rfl, rfl⟩) (fun r _ hl => ⟨hl, rfl⟩) (fun r _ => .inl rfl) (fun r h => h)
    (fun r => (h.rows r).mono (fun b hb => ⟨hb, rfl⟩) (fun b hb => ⟨hb, rfl⟩) (fun b hb => hb) rfl (fun x hx q hq => .inl rfl)) h.wfr
  exact this

theorem drw_sound (hmix : P.follows .mixedOrders = true) {ops : Array Oper} {aos : List AOper} {bs : List (List Nat)} {id : Nat} {Q : Exit → Act → World → Prop} {K : St → Prop} (hm : mtcOpers P n ops ops.toList aos = true)
    (he : edgesOk ops bs = true) (hd : drwOk aos bs = true) (hR : R n w0 S0 σ a w) (hs : stOps (OkS P) aos K σ) (hQ : ∀ τ a w, K τ → R n w0 S0 τ a w → Q .normal a w) : (Code.region id ops true).wp P Q a w := by
  obtain ⟨ps, τ, hc, hK, e⟩ := stOps_chain aos σ σ (.refl σ) hs
  refine wp_region_any hmix ?_
  have hD : ∀ j, Dl (Array.replicate ops.size false) j = false := by
    intro j; unfold Dl
    rw [Array.getD_eq_getD_getElem?]
    cases h : (Array.replicate ops.size false)[j]? with
    | none => rfl
    | some x =>
      obtain ⟨h1, h2⟩ := Array.getElem?_eq_some_iff.1 h
      simp at h2; simp [← h2]
  have hcnt : ∀ m, cnt m (Dl (Array.replicate ops.size false)) = m := by
    intro m
    induction m with
    | zero => rfl
    | succ m ih => simp only [cnt, ih, hD, Bool.false_eq_true, if_false]
  refine drw_any hm he hd hc ⟨a, w, hR⟩ (fun a w h => hQ τ a w hK (h.eqv e.symm)) ops.size _ σ a _ (by simp) (by rw [hcnt]; exact Nat.le_refl _) (fun j o ho hDj => by rw [hD] at hDj; cases hDj) ⟨fun s => ?_, fun r => ?_⟩ hR.drew
  · exact (fo_none _ _ _ fun j _ => hD j).symm
  · exact (fo_none _ _ _ fun j _ => hD j).symm
end Vs

/- Names of rows: forgotten, changed. -/
namespace Vs
open Go Go.RowKit

variable {P : Program} {n : Nat} {w0 : World} {S0 : Fx} {σ τ : St} {a : Act} {w w' : World} {tag tag' : Nat → Tag} {β β' : Nat → Option Own}

theorem look_map {α : Type} (h : α → α) (k : Nat) : ∀ l : List (Nat × α), look k (l.map fun p => (p.1, h p.2)) = (look k l).map h
  | [] => rfl
  | (j, x) :: l => by
    simp only [List.map_cons, look, look_map h k l]
    split <;> rfl
theorem look_del {α : Type} (d k : Nat) : ∀ l : List (Nat × α), look k (del d l) = if k = d then none else look k l
  | [] => by simp [del, look]
  | (j, x) :: l => by
    simp only [del]
    by_cases h : j = d
    · subst h
      simp only [if_true, look_del j k l, look]
      by_cases hk : k = j
      · simp [hk]
      · simp [hk, Ne.symm hk]
    · simp only [h, if_false, look, look_del d k l]
      by_cases hk : k = d
      · subst hk; simp [h]
      · simp [hk]
theorem look_ren {α : Type} (h : α → α) (r d k : Nat) (hrd : r ≠ d) : ∀ l : List (Nat × α), look d l = none →
    look k (l.map fun p => (if p.1 = r then d else p.1, h p.2)) = if k = d then (look r l).map h else if k = r then none else (look k l).map h
  | [], _ => by simp [look]
  | (j, x) :: l, hd => by
    simp only [look] at hd
    split at hd
    · cases hd
    · rename_i hjd
      simp only [List.map_cons, look, look_ren h r d k hrd l hd]
      by_cases hj : j = r
      · subst hj
        simp only [if_true]
        by_cases hk : k = d
        · subst hk; simp
        · by_cases hkj : k = j
          · subst hkj; simp [hk, Ne.symm hk]
          · simp [hk, Ne.symm hk, hkj, Ne.symm hkj]
      · simp only [hj, if_false]
        by_cases hk : k = d
        · subst hk; simp [hjd]
        · by_cases hkr : k = r
          · subst hkr; simp [hj, hk]
          · simp only [hk, hkr, if_false]
            split <;> rfl

theorem rowmap_ments {h : AV → AV} {row : Row} {x : AV} (e : row.map h = .var x) : ∃ y, row = .var y ∧ x = h y := by
  cases row <;> simp [Row.map] at e
  exact ⟨_, rfl, e.symm⟩

theorem hush_ments {d : Nat} {x : AV} {q : Nat} (h : q ∈ (x.hush d).ments) : q ∈ x.ments ∧ q ≠ d := by
  unfold AV.hush at h
  split at h
  · simp [AV.ments] at h
  · rename_i hd; exact ⟨h, fun e => hd (e ▸ h)⟩

/-- the rows that go with the name d -/
def Gone (σ : St) (d r : Nat) : Prop := r = d ∨ ∃ x, look r σ.rows = some (.var x) ∧ d ∈ x.ments

/-- the name d is given up -/
theorem RR.forget (h : RR n w0 S0 σ a w tag β) (d : Nat) : ∃ tag' β', RR n w0 S0 ⟨σ.env.map fun p => (p.1, p.2.hush d), (del d σ.rows).map fun p => (p.1, p.2.hush d)⟩ a w tag' β' ∧ β' d = none ∧ ∀ b r, tag' b = .own r ∨ tag' b = .uq r → r ≠ d := by
  classical
  let tag' : Nat → Tag := fun b => if ∃ r, tag b = .own r ∧ Gone σ d r then .out else if ∃ r, tag b = .uq r ∧ Gone σ d r then .imm else tag b
  let β' : Nat → Option Own := fun r => if Gone σ d r then none else β r
  have tOut : ∀ b, tag b = .out → tag' b = .out := by
    intro b hb
    simp only [tag', hb]; simp
  have tImm : ∀ b, tag b = .imm → tag' b = .imm := by
    intro b hb
    simp only [tag', hb]; simp
  have tOwn : ∀ b r, tag b = .own r → ¬ Gone σ d r → tag' b = .own r := by
    intro b r hb hg
    simp only [tag', hb]
    rw [if_neg (by rintro ⟨q, e, hq⟩; cases e; exact hg hq), if_neg (by rintro ⟨q, e, _⟩; cases e)]
  have tUq : ∀ b r, tag b = .uq r → ¬ Gone σ d r → tag' b = .uq r := by
    intro b r hb hg
    simp only [tag', hb]
    rw [if_neg (by rintro ⟨q, e, _⟩; cases e), if_neg (by rintro ⟨q, e, hq⟩; cases e; exact hg hq)]
  have tUqG : ∀ b r, tag b = .uq r → Gone σ d r → tag' b = .imm := by
    intro b r hb hg
    simp only [tag', hb]
    rw [if_neg (by rintro ⟨q, e, _⟩; cases e), if_pos ⟨r, rfl, hg⟩]
  have himm : ∀ b, Imm tag b → Imm tag' b ∧ w.heap[b]? = w.heap[b]? := by
    intro b hb
    refine ⟨?_, rfl⟩
    rcases hb with hb | ⟨r, hb⟩
    · exact .inl (tImm b hb)
    · by_cases e : Gone σ d r
      · exact .inl (tUqG b r hb e)
      · exact .inr ⟨r, tUq b r hb e⟩
  have hRep : ∀ {v x}, Rep w (Imm tag) w0.heap.size β v x → Rep w (Imm tag') w0.heap.size β' v x := by
    intro v x hr
    refine hr.mono himm fun r hr => ?_
    simp only [β']
    by_cases e : Gone σ d r
    · right; rw [if_pos e]
    · left; rw [if_neg e]
  have hlook : ∀ r, look r ((del d σ.rows).map fun p => (p.1, p.2.hush d)) = if r = d then none else (look r σ.rows).map (Row.hush d) := by
    intro r
    rw [look_map (Row.hush d), look_del]
    split <;> rfl
  have hsome : ∀ r, r ≠ d → (look r σ.rows).isSome → (look r ((del d σ.rows).map fun p => (p.1, p.2.hush d))).isSome := by
    intro r hr h; rw [hlook, if_neg hr]; simpa using h
  have hback : ∀ b, tag' b = .out ∨ tag' b = .imm ∨ tag' b = tag b := by
    intro b
    simp only [tag']
    split
    · exact .inl rfl
    · split
      · exact .inr (.inl rfl)
      · exact .inr (.inr rfl)
  have tKeep : ∀ b, tag b = .imm ∨ tag b = .out → tag' b = tag b := fun b hb => hb.elim (fun e => (tImm b e).trans e.symm) fun e => (tOut b e).trans e.symm
  refine ⟨tag', β', ⟨h.nn, h.frm, fun b hb ht => ?_, fun b hb => ?_, fun r hr hl => ?_, h.below, h.sz, h.nodef, h.s0lt, fun b hb => h.lt b fun e => hb (tOut b e), fun b hb => ?_, fun k x hk => ?_, fun r => ?_, fun r x hr q hq => ?_⟩, by simp [β', Gone], fun b r hr => ?_⟩
  · obtain ⟨k1, k2⟩ := h.keep b hb ht
    exact ⟨by rw [tKeep b (by rw [k1]; exact ht), k1], k2⟩
  · obtain ⟨k1, k2⟩ := h.kimm b hb
    exact ⟨(himm b k1).1, k2⟩
  · dsimp only at hl
    rw [hlook] at hl
    by_cases e : r = d
    · rw [if_pos e] at hl; exact hl.elim
    · rw [if_neg e] at hl
      have hng : ¬ Gone σ d r := by
        rintro (e' | ⟨x, hx, hm⟩)
        · exact e e'
        · rw [hx] at hl
          simp only [Option.map_some, Row.hush, if_pos hm] at hl
          exact hl
      simp only [β', if_neg hng]
      refine h.bk r hr ?_
      cases hrow : look r σ.rows with
      | none => rw [hrow] at hl; exact hl.elim
      | some row =>
        rw [hrow] at hl
        cases row with
        | dead => exact hl.elim
        | var x => trivial
        | arr k es => trivial
  · obtain ⟨h1, h2⟩ := h.old b hb
    have : tag' b = tag b := by
      rcases h2 with e | e
      · rw [e]; exact tImm b e
      · rw [e]; exact tOut b e
    rw [this]; exact ⟨h1, h2⟩
  · dsimp only at hk ⊢
    rw [look_map (fun x : AV => x.hush d)] at hk
    simp only [Option.map_eq_some_iff] at hk
    obtain ⟨y, hy, rfl⟩ := hk
    obtain ⟨h1, h2⟩ := h.env k y hy
    refine ⟨?_, fun r hr => hsome r (hush_ments hr).2 (h2 r (hush_ments hr).1)⟩
    unfold AV.hush
    split
    · exact .p _ _ (.top _)
    · exact hRep h1
  · rw [hlook]
    split
    · rename_i e; subst e; simp [RowOk, β', Gone]
    · rename_i hrd
      have hr := h.rows r
      cases hrow : look r σ.rows with
      | none =>
        rw [hrow] at hr
        simp only [Option.map_none, RowOk, β']
        split
        · rfl
        · exact hr
      | some row =>
        rw [hrow] at hr
        have hng : (∀ x, row = .var x → d ∉ x.ments) → ¬ Gone σ d r := by
          rintro hx (e | ⟨x, hx', hm⟩)
          · exact hrd e
          · rw [hrow] at hx'; cases hx'; exact hx x rfl hm
        cases row with
        | dead =>
          simp only [Option.map_some, Row.hush, RowOk, β']
          split
          · rfl
          · exact hr
        | var x =>
          simp only [Option.map_some, Row.hush]
          split
          · rename_i hm
            simp only [RowOk, β']
            rw [if_pos (.inr ⟨x, hrow, hm⟩)]
          · rename_i hm
            have hg := hng fun y e => by cases e; exact hm
            obtain ⟨b, o, v, h1, ⟨h2, h3, h4⟩, h5, h6, h7⟩ := hr
            exact ⟨b, o, v, by simp only [β', if_neg hg]; exact h1, ⟨tOwn b r h2 hg, h3, h4⟩, h5, hRep h6, h7⟩
        | arr k es =>
          have hg := hng fun y e => by cases e
          simp only [Option.map_some, Row.hush]
          rcases hr with ⟨h1, h2⟩ | ⟨b, o, cap, vs, fps, h1, ⟨h2, h3, h4⟩, h5, h6, h7, h8, h9⟩
          · exact .inl ⟨by simp only [β', if_neg hg]; exact h1, h2⟩
          · exact .inr ⟨b, o, cap, vs, fps, by simp only [β', if_neg hg]; exact h1, ⟨tOwn b r h2 hg, h3, h4⟩, h5, h6, fun j x hj => (h7 j x hj).mono himm, h8,
              fun c hc => tUq c r (h9 c hc) hg⟩
  · rw [hlook] at hr
    split at hr
    · cases hr
    · simp only [Option.map_eq_some_iff] at hr
      obtain ⟨row, hrow, e⟩ := hr
      cases row with
      | dead => simp [Row.hush] at e
      | arr k es => simp [Row.hush] at e
      | var y =>
        simp only [Row.hush] at e
        split at e
        · cases e
        · rename_i hm
          cases e
          exact hsome q (fun e => hm (e ▸ hq)) (h.wfr r x hrow q hq)
  · rintro rfl
    have hg : Gone σ r r := .inl rfl
    rcases hr with hr | hr
    · rcases hback b with e | e | e
      · rw [e] at hr; cases hr
      · rw [e] at hr; cases hr
      · rw [e] at hr
        have : tag' b = .out := by simp only [tag', hr]; rw [if_pos ⟨r, rfl, hg⟩]
        rw [this] at e; rw [← e] at hr; cases hr
    · rcases hback b with e | e | e
      · rw [e] at hr; cases hr
      · rw [e] at hr; cases hr
      · rw [e] at hr
        have : tag' b = .imm := tUqG b r hr hg
        rw [this] at e; rw [← e] at hr; cases hr

/-! ### another name -/
mutual
theorem ren_id (r d : Nat) : ∀ (x : AV), x.ments = [] → x.ren r d = x
  | .sl q i m, h => by simp [AV.ments] at h
  | .pt q i m, h => by simp [AV.ments] at h
  | .agg cs, h => by simp only [AV.ments] at h; simp only [AV.ren, renL_id r d cs h]
  | .fn f cs, h => by simp only [AV.ments] at h; simp only [AV.ren, renL_id r d cs h]
  | .tup cs, h => by simp only [AV.ments] at h; simp only [AV.ren, renL_id r d cs h]
  | .sc v, _ => by simp only [AV.ren]
  | .lst _ _ _, _ => by simp only [AV.ren]
  | .tg _ _ _, _ => by simp only [AV.ren]
  | .bp _ _, _ => by simp only [AV.ren]
  | .top, _ => by simp only [AV.ren]
theorem renL_id (r d : Nat) : ∀ (xs : List AV), mentsL xs = [] → renL r d xs = xs
  | [], _ => by simp only [renL]
  | x :: xs, h => by
    simp only [mentsL, List.append_eq_nil_iff] at h
    simp only [renL, ren_id r d x h.1, renL_id r d xs h.2]
end
theorem renL_at (r d : Nat) : ∀ (xs : List AV) (j : Nat), (renL r d xs)[j]? = (xs[j]?).map (·.ren r d)
  | [], j => by simp [renL]
  | x :: xs, 0 => by simp [renL]
  | x :: xs, j + 1 => by simp [renL, renL_at r d xs j]
theorem renL_len (r d : Nat) : ∀ (xs : List AV), (renL r d xs).length = xs.length
  | [] => rfl
  | x :: xs => by simp [renL, renL_len r d xs]
mutual
theorem ren_ments (r d : Nat) : ∀ (x : AV) (q : Nat), q ∈ (x.ren r d).ments → (q = d ∧ r ∈ x.ments) ∨ (q ≠ r ∧ q ∈ x.ments) ∨ (r = d ∧ q ∈ x.ments)
  | .sl p i m, q, h => by
    simp only [AV.ren, AV.ments, List.mem_singleton] at h ⊢
    split at h
    · rename_i e; exact .inl ⟨h, e.symm⟩
    · rename_i e; exact .inr (.inl ⟨fun e' => e (h.symm.trans e'), h⟩)
  | .pt p i m, q, h => by
    simp only [AV.ren, AV.ments, List.mem_singleton] at h ⊢
    split at h
    · rename_i e; exact .inl ⟨h, e.symm⟩
    · rename_i e; exact .inr (.inl ⟨fun e' => e (h.symm.trans e'), h⟩)
  | .agg cs, q, h => by simp only [AV.ren, AV.ments] at h ⊢; exact renL_ments r d cs q h
  | .fn f cs, q, h => by simp only [AV.ren, AV.ments] at h ⊢; exact renL_ments r d cs q h
  | .tup cs, q, h => by simp only [AV.ren, AV.ments] at h ⊢; exact renL_ments r d cs q h
  | .sc v, q, h => by simp [AV.ren, AV.ments] at h
  | .lst _ _ _, q, h => by simp [AV.ren, AV.ments] at h
  | .tg _ _ _, q, h => by simp [AV.ren, AV.ments] at h
  | .bp _ _, q, h => by simp [AV.ren, AV.ments] at h
  | .top, q, h => by simp [AV.ren, AV.ments] at h
theorem renL_ments (r d : Nat) : ∀ (xs : List AV) (q : Nat), q ∈ mentsL (renL r d xs) → (q = d ∧ r ∈ mentsL xs) ∨ (q ≠ r ∧ q ∈ mentsL xs) ∨ (r = d ∧ q ∈ mentsL xs)
  | [], q, h => by simp [renL, mentsL] at h
  | x :: xs, q, h => by
    simp only [renL, mentsL, List.mem_append] at h ⊢
    rcases h with h | h
    · rcases ren_ments r d x q h with ⟨h1, h2⟩ | ⟨h1, h2⟩ | ⟨h1, h2⟩
      · exact .inl ⟨h1, .inl h2⟩
      · exact .inr (.inl ⟨h1, .inl h2⟩)
      · exact .inr (.inr ⟨h1, .inl h2⟩)
    · rcases renL_ments r d xs q h with ⟨h1, h2⟩ | ⟨h1, h2⟩ | ⟨h1, h2⟩
      · exact .inl ⟨h1, .inr h2⟩
      · exact .inr (.inl ⟨h1, .inr h2⟩)
      · exact .inr (.inr ⟨h1, .inr h2⟩)
end
theorem ren_width (r d : Nat) (x : AV) : (x.ren r d).width = x.width := by
  cases x <;> simp [AV.ren, AV.width, renL_len]

theorem Rep.ren {S S' : Nat → Prop} {B : Nat} {v : Value} {x : AV} (h : Rep w S B β v x) (r d : Nat) (hS : ∀ b, S b → S' b) (hb : ∀ q ∈ x.ments, β' (if q = r then d else q) = β q) : Rep w S' B β' v (x.ren r d) := by
  induction h with
  | p v x h => rw [ren_id r d x h.ments_nil]; exact .p _ _ (h.mono fun b hb => ⟨hS b hb, rfl⟩)
  | slB q i n b o sz cap len c h hc hn hl => simp only [AV.ren]; exact .slB _ i n b o sz cap len c ((hb q (by simp [AV.ments])).trans h) hc hn hl
  | slE q i b o sz cap len p h hp => simp only [AV.ren]; exact .slE _ i b o sz cap len p ((hb q (by simp [AV.ments])).trans h) hp
  | slN q h => simp only [AV.ren]; exact .slN _ ((hb q (by simp [AV.ments])).trans h)
  | slD q i n v h h1 => simp only [AV.ren]; exact .slD _ i n v ((hb q (by simp [AV.ments])).trans h) h1
  | ptB q i off b o sz cap len h => simp only [AV.ren]; exact .ptB _ i off b o sz cap len ((hb q (by simp [AV.ments])).trans h)
  | ptD q i off v h h1 => simp only [AV.ren]; exact .ptD _ i off v ((hb q (by simp [AV.ments])).trans h) h1
  | tg f n len a xs hl h => simp only [AV.ren]; exact .tg f n len a xs hl (h.mono fun b hb => ⟨hS b hb, rfl⟩)
  | agg vs cs hsz h1 hx ih =>
    simp only [AV.ren]
    refine .agg vs _ (by rw [renL_len]; exact hsz) h1 fun j x hj => ?_
    rw [renL_at, Option.map_eq_some_iff] at hj
    obtain ⟨y, hy, rfl⟩ := hj
    exact ih j y hy fun q hq => hb q (by simp only [AV.ments]; exact mentsL_at hy hq)
  | tup vs cs hsz hx ih =>
    simp only [AV.ren]
    refine .tup vs _ (by rw [renL_len]; exact hsz) fun j x hj => ?_
    rw [renL_at, Option.map_eq_some_iff] at hj
    obtain ⟨y, hy, rfl⟩ := hj
    exact ih j y hy fun q hq => hb q (by simp only [AV.ments]; exact mentsL_at hy hq)
  | fn f vs cs hsz hx ih =>
    simp only [AV.ren]
    refine .fn f vs _ (by rw [renL_len]; exact hsz) fun j x hj => ?_
    rw [renL_at, Option.map_eq_some_iff] at hj
    obtain ⟨y, hy, rfl⟩ := hj
    exact ih j y hy fun q hq => hb q (by simp only [AV.ments]; exact mentsL_at hy hq)

/-- the row r is named d -/
theorem RR.rename (h : RR n w0 S0 σ a w tag β) (r d : Nat) (hrb : r < 1000000000) (hdb : d < 1000000000) (hrd : r ≠ d) (hd : look d σ.rows = none) (ht : ∀ b q, tag b = .own q ∨ tag b = .uq q → q ≠ d) :
    R n w0 S0 ⟨σ.env.map fun p => (p.1, p.2.ren r d), σ.rows.map fun p => (if p.1 = r then d else p.1, p.2.map (·.ren r d))⟩ a w := by
  let nm : Tag → Tag := fun t => match t with | .own q => .own (if q = r then d else q) | .uq q => .uq (if q = r then d else q) | t => t
  let tag' : Nat → Tag := fun b => nm (tag b)
  let β' : Nat → Option Own := fun q => if q = d then β r else if q = r then none else β q
  have hβd : β d = none := by have := h.rows d; rw [hd] at this; exact this
  have himm : ∀ b, Imm tag b → Imm tag' b := by
    intro b hb
    rcases hb with hb | ⟨q, hb⟩
    · exact .inl (by simp only [tag', hb, nm])
    · exact .inr ⟨if q = r then d else q, by simp only [tag', hb, nm]⟩
  have hbq : ∀ q, (look q σ.rows).isSome → β' (if q = r then d else q) = β q := by
    intro q hq
    by_cases e : q = r
    · subst e; simp [β']
    · have hqd : q ≠ d := by rintro rfl; rw [hd] at hq; cases hq
      simp [β', e, hqd]
  have hlook : ∀ k, look k (σ.rows.map fun p => (if p.1 = r then d else p.1, p.2.map (·.ren r d))) = if k = d then (look r σ.rows).map (Row.map (·.ren r d)) else if k = r then none else (look k σ.rows).map (Row.map (·.ren r d)) :=
    fun k => look_ren (Row.map (·.ren r d)) r d k hrd σ.rows hd
  have hsome : ∀ (q : Nat) (x : List Nat), (∀ p ∈ x, (look p σ.rows).isSome) → (q = d ∧ r ∈ x) ∨ (q ≠ r ∧ q ∈ x) ∨ (r = d ∧ q ∈ x) → (look q (σ.rows.map fun p => (if p.1 = r then d else p.1, p.2.map (·.ren r d)))).isSome := by
    intro q x hx hq
    rw [hlook]
    rcases hq with ⟨rfl, hr⟩ | ⟨hqr, hq⟩ | ⟨e, _⟩
    · simpa using hx r hr
    · split
      · rename_i e; subst e; have := hx q hq; rw [hd] at this; cases this
      · first | (rw [if_neg hqr]; simpa using hx q hq) | simpa using hx q hq
    · exact (hrd e).elim
  refine ⟨tag', β', h.nn, h.frm, fun b hb ht => ?_, fun b hb => ?_, fun k hk hl => ?_, h.below, h.sz, h.nodef, h.s0lt, fun b hb => h.lt b fun e => hb (by simp only [tag', e, nm]), fun b hb => ?_, fun k x hk => ?_, fun k => ?_, fun k x hk q hq => ?_⟩
  · obtain ⟨k1, k2⟩ := h.keep b hb ht
    refine ⟨?_, k2⟩
    simp only [tag', k1]
    rcases ht with e | e <;> rw [e]
  · obtain ⟨k1, k2⟩ := h.kimm b hb
    exact ⟨himm b k1, k2⟩
  · dsimp only at hl
    rw [hlook, if_neg (by omega), if_neg (by omega)] at hl
    simp only [β', if_neg (show ¬ k = d by omega), if_neg (show ¬ k = r by omega)]
    refine h.bk k hk ?_
    cases hrow : look k σ.rows with
    | none => rw [hrow] at hl; exact hl.elim
    | some row =>
      rw [hrow] at hl
      cases row with
      | dead => exact hl.elim
      | var x => trivial
      | arr k es => trivial
  · obtain ⟨h1, h2⟩ := h.old b hb
    have : tag' b = tag b := by rcases h2 with e | e <;> simp only [tag', e, nm]
    rw [this]; exact ⟨h1, h2⟩
  · dsimp only at hk ⊢
    rw [look_map (fun x : AV => x.ren r d)] at hk
    simp only [Option.map_eq_some_iff] at hk
    obtain ⟨y, hy, rfl⟩ := hk
    obtain ⟨h1, h2⟩ := h.env k y hy
    exact ⟨h1.ren r d himm fun q hq => hbq q (h2 q hq), fun q hq => hsome q y.ments h2 (ren_ments r d y q hq)⟩
  · rw [hlook]
    have key : ∀ q row, look q σ.rows = some row → β' (if q = r then d else q) = β q → RowOk w tag' w0.heap.size β' (if q = r then d else q) (some (row.map (·.ren r d))) := by
      intro q row hq hbeq
      have hr := h.rows q
      rw [hq] at hr
      cases row with
      | dead => simp only [Row.map, RowOk]; rw [hbeq]; exact hr
      | var x =>
        obtain ⟨b, o, v, h1, ⟨h2, h3, h4⟩, h5, h6, h7⟩ := hr
        exact ⟨b, o, v, hbeq.trans h1, ⟨by simp only [tag', h2, nm], h3, h4⟩, h5, h6.ren r d himm fun p hp => hbq p (h.wfr q x hq p hp), by rw [ren_width]; exact h7⟩
      | arr k es =>
        rcases hr with ⟨h1, h2⟩ | ⟨b, o, cap, vs, fps, h1, ⟨h2, h3, h4⟩, h5, h6, h7, h8, h9⟩
        · exact .inl ⟨hbeq.trans h1, h2⟩
        · exact .inr ⟨b, o, cap, vs, fps, hbeq.trans h1, ⟨by simp only [tag', h2, nm], h3, h4⟩, h5, h6, fun j x hj => (h7 j x hj).mono fun b hb => ⟨himm b hb, rfl⟩, h8, fun c hc => by simp only [tag', h9 c hc, nm]⟩
    split
    · rename_i e; subst e
      cases hr : look r σ.rows with
      | none =>
        have := h.rows r
        rw [hr] at this
        simpa [RowOk, β'] using this
      | some row =>
        have := key r row hr (hbq r (by rw [hr]; rfl))
        simpa using this
    · rename_i hkd
      split
      · rename_i e; subst e; simp [RowOk, β', hrd]
      · rename_i hkr
        cases hr : look k σ.rows with
        | none =>
          have := h.rows k
          rw [hr] at this
          simpa [RowOk, β', hkd, hkr] using this
        | some row =>
          have := key k row hr (hbq k (by rw [hr]; rfl))
          simpa [hkr] using this
  · rw [hlook] at hk
    have key : ∀ q0 row, look q0 σ.rows = some row → row.map (·.ren r d) = .var x → (look q (σ.rows.map fun p => (if p.1 = r then d else p.1, p.2.map (·.ren r d)))).isSome := by
      intro q0 row h0 e
      obtain ⟨y, rfl, rfl⟩ := rowmap_ments e
      exact hsome q y.ments (h.wfr q0 y h0) (ren_ments r d y q hq)
    split at hk
    · simp only [Option.map_eq_some_iff] at hk
      obtain ⟨row, h0, e⟩ := hk
      exact key r row h0 e
    · split at hk
      · cases hk
      · simp only [Option.map_eq_some_iff] at hk
        obtain ⟨row, h0, e⟩ := hk
        exact key k row h0 e

theorem R.canSl (h : R n w0 S0 σ a w) {d r i m : Nat} (hdn : d < n) (hg : look d σ.env = some (.sl r i m)) : R n w0 S0 (σ.canSl d r i m) a w := by
  unfold St.canSl
  split
  · exact h
  · rename_i hrd'
    have hrd : r ≠ d := fun e => hrd' (.inl e)
    have hrb : r < 1000000000 := Nat.lt_of_not_le fun e => hrd' (.inr e)
    obtain ⟨tag, β, h⟩ := h
    have hnn := h.nn
    obtain ⟨tag', β', h', _, ht⟩ := h.forget d
    have hdl : look d ((del d σ.rows).map fun p => (p.1, p.2.hush d)) = none := by rw [look_map (Row.hush d), look_del, if_pos rfl]; rfl
    refine (h'.rename r d hrb (by omega) hrd hdl ht).eqv ⟨fun s => ?_, fun _ => rfl⟩
    dsimp only
    rw [look_put]
    split
    · rename_i e; subst e
      rw [look_map (fun x : AV => x.ren r s), look_map (fun x : AV => x.hush s), hg]
      simp [AV.hush, AV.ments, Ne.symm hrd, AV.ren]
    · rfl

theorem R.canNil (h : R n w0 S0 σ a w) {d m : Nat} (hdn : d < n) (hg : look d σ.env = some (.lst .u m [])) : R n w0 S0 (σ.canNil d m) a w := by
  obtain ⟨tag, β, h⟩ := h
  obtain ⟨tag', β', h', hb, ht⟩ := h.forget d
  have hv : a.tmps.getD d undef = .slice none 0 0 := by
    have := (h.env d _ hg).1
    have key : ∀ v fp, RepP w (Imm tag) w0.heap.size v (.lst .u m []) fp → fp = [] → v = .slice none 0 0 := by
      intro v fp hp hfp
      cases hp with
      | nil _ _ ad cap hn => obtain rfl := hn.2 rfl; obtain rfl := hn.1 rfl; rfl
      | lst => simp at hfp
    exact key _ _ this.lst_inv rfl
  have hdr : look d ((del d σ.rows).map fun p => (p.1, p.2.hush d)) = none := by rw [look_map (Row.hush d), look_del, if_pos rfl]; rfl
  have hne : ∀ r, (look r ((del d σ.rows).map fun p => (p.1, p.2.hush d))).isSome → r ≠ d := by rintro r hr rfl; rw [hdr] at hr; cases hr
  have hch := h'.change (w' := w) (tag' := tag') (β' := fun r => if r = d then some .nil else β' r) (rows' := put d (.arr m []) ((del d σ.rows).map fun p => (p.1, p.2.hush d))) (.refl _ _) (fun b hb => ⟨hb, rfl⟩) h'.lt (fun _ _ _ => ⟨rfl, rfl⟩)
    (fun r hr hl => by
      have hn := h.nn
      have e : r ≠ d := by omega
      rw [look_put, if_neg e] at hl
      exact ⟨hl, if_neg e⟩)
    (fun r hr => .inl (by simp only [if_neg (hne r hr)]))
    (fun r hr => by simp only [look_put, if_neg (hne r hr)]; exact hr)
    (fun r => by
      rw [look_put]
      split
      · rename_i e; subst e; exact .inl ⟨by simp, rfl⟩
      · rename_i e
        refine (h'.rows r).mono (fun b hb => ⟨hb, rfl⟩) (fun b hb => ⟨hb, rfl⟩) (fun b hb => hb) (by simp [e]) fun x hx q hq => .inl ?_
        have := hne q (h'.wfr r x hx q hq)
        simp only [if_neg this])
    (fun r x hr q hq => by
      rw [look_put] at hr
      split at hr
      · cases hr
      · have := h'.wfr r x hr q hq
        rw [look_put, if_neg (hne q this)]; exact this)
  have hs := hch.step hdn (v := .slice none 0 0) (x := .sl d 0 0) (.slN d (by simp)) (by
    intro r hr
    simp only [AV.ments, List.mem_singleton] at hr
    subst hr
    simp only [look_put, if_true, Option.isSome_some])
  have ha : a.put (some d) (.slice none 0 0) = a := by
    rw [← hv]
    simp only [Act.put]
    have : a.tmps.setIfInBounds d (a.tmps.getD d undef) = a.tmps := by
      apply Array.ext
      · simp
      · intro j h1 h2
        rw [Array.getElem_setIfInBounds (by simpa using h1)]
        split
        · rename_i e; subst e; simp [h2]
        · rfl
    rw [this]
  rw [ha] at hs
  exact ⟨_, _, hs⟩

theorem R.can1 (h : R n w0 S0 σ a w) {d : Nat} (hd : d < n) : R n w0 S0 (σ.can1 d) a w := by
  unfold St.can1
  have hg : ∀ x, σ.get d = x → x ≠ .top → look d σ.env = some x := by
    intro x hx hne
    simp only [St.get] at hx
    cases e : look d σ.env with
    | none => rw [e] at hx; exact (hne hx.symm).elim
    | some y => rw [e] at hx; simp at hx; rw [hx]
  unfold St.canV
  split
  · rename_i r i m e; exact h.canSl hd (hg _ e (by simp))
  · rename_i m e; exact h.canNil hd (hg _ e (by simp))
  · exact h
theorem R.can : ∀ {ds : List Nat} {σ : St}, R n w0 S0 σ a w → (∀ d ∈ ds, d < n) → R n w0 S0 (σ.can ds) a w
  | [], σ, h, _ => h
  | d :: ds, σ, h, hd => R.can (σ := σ.can1 d) (h.can1 (hd d (by simp))) fun e he => hd e (by simp [he])
end Vs

/- Bodies: the walk of the control; a function's contract from its abstract body. -/
namespace Vs
open Go Go.RowKit

variable {P : Program} {n : Nat} {w0 : World} {S0 : Fx} {σ τ : St} {a : Act} {w w' : World} {tag tag' : Nat → Tag} {β β' : Nat → Option Own}

/-! ### what a loop keeps -/
theorem look_keys {α : Type} (f : Nat → α) (k : Nat) : ∀ l : List Nat, look k (l.map fun j => (j, f j)) = if k ∈ l then some (f k) else none
  | [] => by simp [look]
  | j :: l => by
    simp only [List.map_cons, look, look_keys f k l, List.mem_cons]
    by_cases h : j = k
    · subst h; simp
    · simp [h, Ne.symm h]

theorem RR.res (h : RR n w0 S0 σ a w tag β) {lv lr : List Nat} (hok : σ.resOk lv lr) : ∃ tag' β', RR n w0 S0 (σ.res lv lr) a w tag' β' ∧
    ∀ v x, Rep w (Imm tag) w0.heap.size β v x → (∀ r ∈ x.ments, r ∈ lr) → Rep w (Imm tag') w0.heap.size β' v x := by
  obtain ⟨ho1, ho2, _⟩ := hok
  let tag' : Nat → Tag := fun b => match tag b with | .own r => if r ∈ lr then .own r else .out | .uq r => if r ∈ lr then .uq r else .imm | t => t
  let β' : Nat → Option Own := fun r => if r ∈ lr then β r else none
  have himm : ∀ b, Imm tag b → Imm tag' b ∧ w.heap[b]? = w.heap[b]? := by
    intro b hb
    refine ⟨?_, rfl⟩
    rcases hb with hb | ⟨r, hb⟩
    · left; simp only [tag', hb]
    · by_cases e : r ∈ lr
      · right; exact ⟨r, by simp only [tag', hb, e, if_true]⟩
      · left; simp only [tag', hb, e, if_false]
  have hβ : ∀ r, β' r = β r ∨ β' r = none := by
    intro r; simp only [β']
    by_cases e : r ∈ lr
    · left; rw [if_pos e]
    · right; rw [if_neg e]
  have hrow : ∀ r, look r (σ.res lv lr).rows = if r ∈ lr then some ((σ.row r).getD .dead) else none := fun r => look_keys _ r lr
  have henv : ∀ k, look k (σ.res lv lr).env = if k ∈ lv then some (σ.get k) else none := fun k => look_keys _ k lv
  refine ⟨tag', β', ⟨h.nn, h.frm, fun b hb ht => ?_, fun b hb => ?_, fun r hr hl => ?_, h.below, h.sz, h.nodef, h.s0lt, fun b hb => h.lt b fun e => hb (by simp only [tag', e]), fun b hb => ?_, fun k x hk => ?_, fun r => ?_, fun r x hr q hq => ?_⟩, fun v x hv hx => hv.mono himm fun r hr => .inl (by simp only [β', if_pos (hx r hr)])⟩
  · obtain ⟨k1, k2⟩ := h.keep b hb ht
    refine ⟨?_, k2⟩
    simp only [tag', k1]
    rcases ht with e | e <;> rw [e]
  · obtain ⟨k1, k2⟩ := h.kimm b hb
    exact ⟨(himm b k1).1, k2⟩
  · rw [hrow] at hl
    by_cases e : r ∈ lr
    · rw [if_pos e] at hl
      simp only [β', if_pos e]
      refine h.bk r hr ?_
      show isLive (σ.row r)
      cases hrw : σ.row r with
      | none => rw [hrw] at hl; exact hl.elim
      | some row => rw [hrw] at hl; exact hl
    · rw [if_neg e] at hl; exact hl.elim
  · obtain ⟨h1, h2⟩ := h.old b hb
    have : tag' b = tag b := by rcases h2 with e | e <;> simp only [tag', e]
    rw [this]; exact ⟨h1, h2⟩
  · rw [henv] at hk
    split at hk
    · rename_i hkl
      cases hk
      refine ⟨(h.get k).1.mono himm fun r _ => hβ r, fun r hr => ?_⟩
      rw [hrow, if_pos (ho1 k hkl r hr)]; rfl
    · cases hk
  · rw [hrow]
    split
    · rename_i hl
      have hr := h.rows r
      have hrw : σ.row r = look r σ.rows := rfl
      rw [hrw]
      have hb : β' r = β r := by simp only [β', if_pos hl]
      cases e : look r σ.rows with
      | none => rw [e] at hr; exact hb.trans hr
      | some row =>
        rw [e] at hr
        refine hr.mono himm (fun b hb => ⟨by simp only [tag', hb, hl, if_true], rfl⟩) (fun b hb => by simp only [tag', hb, hl, if_true]) hb fun x _ q _ => hβ q
    · rename_i hl; simp only [RowOk, β', if_neg hl]
  · rw [hrow] at hr
    split at hr
    · rename_i hl
      cases hr' : σ.row r with
      | none => rw [hr'] at hr; cases hr
      | some row =>
        rw [hr'] at hr
        simp only [Option.getD_some, Option.some.injEq] at hr
        subst hr
        have := ho2 r hl q (by rw [hr']; exact hq)
        rw [hrow, if_pos this]; rfl
    · cases hr

theorem R.res (h : R n w0 S0 σ a w) {lv lr : List Nat} (hok : σ.resOk lv lr) : R n w0 S0 (σ.res lv lr) a w := by
  obtain ⟨tag, β, h⟩ := h
  obtain ⟨tag', β', h', _⟩ := h.res hok
  exact ⟨tag', β', h'⟩

/-! ### the control -/
/-- for each operation of a drawn region: those that surely go before it -/
def bsOf (ops : Array Oper) : List (List Nat) := ops.toList.foldl (fun bs o => bs ++ [o.after.toList.foldl (fun q e => if Region.binds .any e then (if q.contains e.on then q else e.on :: q) ++ ((bs.getD e.on []).filter fun i => !(i == e.on) && !q.contains i) else q) []]) []
def mtcCode (P : Program) (n : Nat) : Code → ACode → Bool
  | .skip, .skip => true
  | .region _ ops false, .reg aops can => mtcOpers P n ops ops.toList aops && can.all fun d => decide (d < n)
  | .region _ ops true, .drw aops can => mtcOpers P n ops ops.toList aops && edgesOk ops (bsOf ops) && drwOk aops (bsOf ops) && can.all fun d => decide (d < n)
  | .seq a b, .seq x y => mtcCode P n a x && mtcCode P n b y
  | .seq a b, .seqr x _ _ y => mtcCode P n a x && mtcCode P n b y
  | .seq (.seq a b) c, .seqa x y _ _ z => mtcCode P n a x && mtcCode P n b y && mtcCode P n c z
  | .cond c a b, .cond x y z => mtcX c x && mtcCode P n a y && mtcCode P n b z
  | .block id a, .blk id' x => id == id' && mtcCode P n a x
  | .loop a, .loop x => mtcCode P n a x
  | .exit id, .exit id' => id == id'
  | .ret, .ret => true
  | _, _ => false

/-- an outcome of the abstract walk, concretely -/
def QQ (n : Nat) (w0 : World) (S0 : Fx) (Q : Ex → St → Prop) : Exit → Act → World → Prop
  | .normal, a, w => ∃ τ, Q .nrm τ ∧ R n w0 S0 τ a w
  | .exit id, a, w => ∃ τ, Q (.ex id) τ ∧ R n w0 S0 τ a w
  | .ret, a, w => ∃ τ, Q .ret τ ∧ R n w0 S0 τ a w
  | _, _, _ => False

theorem least {p : Nat → Prop} (h : ∃ m, p m) : ∃ m, p m ∧ ∀ k, p k → m ≤ k := by
  obtain ⟨m, hm⟩ := h
  induction m using Nat.strongRecOn with
  | _ m ih =>
    by_cases e : ∃ k, k < m ∧ p k
    · obtain ⟨k, hk, hp⟩ := e; exact ih k hk hp
    · exact ⟨m, hm, fun k hk => Nat.le_of_not_lt fun h => e ⟨k, h, hk⟩⟩

theorem code_sound (hmix : P.follows .mixedOrders = true) : ∀ {c : Code} {ac : ACode} {Q : Ex → St → Prop} {σ : St} {a : Act} {w : World}, mtcCode P n c ac = true → AWP (OkS P) ac Q σ → R n w0 S0 σ a w → c.wp P (QQ n w0 S0 Q) a w := by
  intro c
  induction c with
  | skip =>
    intro ac Q σ a w hm h hR
    cases ac <;> simp [mtcCode] at hm
    exact wp_skip ⟨σ, h, hR⟩
  | region id ops draw =>
    intro ac Q σ a w hm h hR
    cases ac <;> cases draw <;> simp only [mtcCode, Bool.and_eq_true, Bool.false_eq_true, List.all_eq_true, decide_eq_true_eq] at hm
    · exact reg_sound hm.1 hR h fun τ a w hK hR' => ⟨_, hK, hR'.can hm.2⟩
    · exact drw_sound hmix hm.1.1.1 hm.1.1.2 hm.1.2 hR h fun τ a w hK hR' => ⟨_, hK, hR'.can hm.2⟩
  | seq x y ihx ihy =>
    intro ac Q σ a w hm h hR
    cases ac <;> (try simp only [mtcCode, Bool.and_eq_true, Bool.false_eq_true] at hm)
    case seqa xa ya lv lr zb =>
      cases x <;> simp only [mtcCode, Bool.and_eq_true, Bool.false_eq_true] at hm
      rename_i p q
      obtain ⟨⟨m1, m2⟩, m3⟩ := hm
      have e : (thn (AWP (OkS P) ya (thn (fun τ => τ.resOk lv lr ∧ AWP (OkS P) zb Q (τ.res lv lr)) Q)) Q) =
          thn (AWP (OkS P) ya (thn (fun τ => τ.resOk lv lr ∧ AWP (OkS P) zb Q (τ.res lv lr)) Q)) (thn (fun τ => τ.resOk lv lr ∧ AWP (OkS P) zb Q (τ.res lv lr)) Q) := by
        funext e τ; cases e <;> rfl
      simp only [AWP] at h
      rw [e] at h
      have hx := ihx (ac := .seq xa ya) (Q := thn (fun τ => τ.resOk lv lr ∧ AWP (OkS P) zb Q (τ.res lv lr)) Q) (by simp only [mtcCode, m1, m2, Bool.and_self]) (by simpa only [AWP] using h) hR
      refine wp_seq (wp_mono hx fun e a w hq => ?_)
      cases e with
      | normal => obtain ⟨τ, h1, h2⟩ := hq; exact ihy m3 h1.2 (h2.res h1.1)
      | exit id => obtain ⟨τ, h1, h2⟩ := hq; exact ⟨τ, h1, h2⟩
      | ret => obtain ⟨τ, h1, h2⟩ := hq; exact ⟨τ, h1, h2⟩
      | goto l => exact hq.elim
      | panic c => exact hq.elim
      | outgrown => exact hq.elim
    case seqr xa lv lr yb =>
      simp only [AWP] at h
      refine wp_seq (wp_mono (ihx hm.1 h hR) fun e a w hq => ?_)
      cases e with
      | normal => obtain ⟨τ, h1, h2⟩ := hq; exact ihy hm.2 h1.2 (h2.res h1.1)
      | exit id => obtain ⟨τ, h1, h2⟩ := hq; exact ⟨τ, h1, h2⟩
      | ret => obtain ⟨τ, h1, h2⟩ := hq; exact ⟨τ, h1, h2⟩
      | goto l => exact hq.elim
      | panic c => exact hq.elim
      | outgrown => exact hq.elim
    refine wp_seq (wp_mono (ihx hm.1 h hR) fun e a w hq => ?_)
    cases e with
    | normal => obtain ⟨τ, h1, h2⟩ := hq; exact ihy hm.2 h1 h2
    | exit id => obtain ⟨τ, h1, h2⟩ := hq; exact ⟨τ, h1, h2⟩
    | ret => obtain ⟨τ, h1, h2⟩ := hq; exact ⟨τ, h1, h2⟩
    | goto l => exact hq.elim
    | panic c => exact hq.elim
    | outgrown => exact hq.elim
  | cond c x y ihx ihy =>
    intro ac Q σ a w hm h hR
    cases ac <;> simp only [mtcCode, Bool.and_eq_true, Bool.false_eq_true] at hm
    simp only [AWP, tst] at h
    obtain ⟨tag, β, hRR⟩ := id hR
    have hx := (hRR.gx hm.1.1).1
    split at h
    · rename_i t e
      rw [e] at hx
      exact wp_cond_split hx.bool_inv (fun ht => ihx hm.1.2 (h.1 ht) hR) fun ht => ihy hm.2 (h.2 ht) hR
    · exact h.elim
  | block id x ihx =>
    intro ac Q σ a w hm h hR
    cases ac <;> simp only [mtcCode, Bool.and_eq_true, Bool.false_eq_true, beq_iff_eq] at hm
    obtain ⟨rfl, hm⟩ := hm
    refine wp_block (wp_mono (ihx hm h hR) fun e a w hq => ?_)
    cases e with
    | normal => obtain ⟨τ, h1, h2⟩ := hq; exact ⟨τ, h1, h2⟩
    | exit j =>
      obtain ⟨τ, h1, h2⟩ := hq
      simp only [inb] at h1
      simp only [Exit.inBlock]
      split
      · rename_i e; rw [if_pos e] at h1; exact ⟨τ, h1, h2⟩
      · rename_i e; rw [if_neg e] at h1; exact ⟨τ, h1, h2⟩
    | ret => obtain ⟨τ, h1, h2⟩ := hq; exact ⟨τ, h1, h2⟩
    | goto l => exact hq.elim
    | panic c => exact hq.elim
    | outgrown => exact hq.elim
  | loop x ihx =>
    intro ac Q σ a w hm h hR
    cases ac <;> simp only [mtcCode, Bool.false_eq_true] at hm
    simp only [AWP] at h
    obtain ⟨lv, lr, I, μ, h1, h2, h3⟩ := h
    let p : Act → World → Nat → Prop := fun a w m => ∃ τ, I τ ∧ R n w0 S0 τ a w ∧ μ τ = m
    refine wp_loop (fun a w => ∃ m, p a w m) (fun a w => open Classical in if h : ∃ m, p a w m then Classical.choose (least h) else 0) ⟨_, _, h2, hR.res h1, rfl⟩ ?_
    intro a w hI
    have hI' := hI
    simp only [dif_pos hI]
    obtain ⟨hp, hmin⟩ := Classical.choose_spec (least hI)
    generalize Classical.choose (least hI) = m at hp hmin
    obtain ⟨τ, i1, i2, i3⟩ := hp
    refine wp_mono (ihx hm (h3 τ i1) i2) fun e a' w' hq => ?_
    cases e with
    | normal =>
      obtain ⟨τ', ⟨j1, j2, j3⟩, j4⟩ := hq
      have hI2 : ∃ m, p a' w' m := ⟨_, _, j2, j4.res j1, rfl⟩
      refine ⟨hI2, ?_⟩
      simp only [dif_pos hI2]
      obtain ⟨_, hmin2⟩ := Classical.choose_spec (least hI2)
      have := hmin2 _ ⟨_, j2, j4.res j1, rfl⟩
      omega
    | exit id => obtain ⟨τ, h1, h2⟩ := hq; exact ⟨τ, h1, h2⟩
    | ret => obtain ⟨τ, h1, h2⟩ := hq; exact ⟨τ, h1, h2⟩
    | goto l => exact hq.elim
    | panic c => exact hq.elim
    | outgrown => exact hq.elim
  | exit id =>
    intro ac Q σ a w hm h hR
    cases ac <;> simp only [mtcCode, Bool.false_eq_true, beq_iff_eq] at hm
    subst hm
    exact wp_exit ⟨σ, h, hR⟩
  | ret =>
    intro ac Q σ a w hm h hR
    cases ac <;> simp [mtcCode] at hm
    exact wp_ret ⟨σ, h, hR⟩
  | rangeFunc f ps asn body ih1 ih2 => intro ac Q σ a w hm h hR; cases ac <;> simp [mtcCode] at hm
  | scope body ih => intro ac Q σ a w hm h hR; cases ac <;> simp [mtcCode] at hm
  | label l => intro ac Q σ a w hm h hR; cases ac <;> simp [mtcCode] at hm
  | goto l => intro ac Q σ a w hm h hR; cases ac <;> simp [mtcCode] at hm
  | refuse y => intro ac Q σ a w hm h hR; cases ac <;> simp [mtcCode] at hm

/-! ### results -/
def mtcR (P : Program) : ResultVar → RV → Bool
  | .tmp t, .t k => t == k
  | .cell t ty, .c k s ag => t == k && szOf P ty s && aggOf P ty ag
  | _, _ => false
def mtcRs (P : Program) : List ResultVar → List RV → Bool
  | [], [] => true
  | x :: xs, y :: ys => mtcR P x y && mtcRs P xs ys
  | _, _ => false

theorem rv_sound (h : RR n w0 S0 σ a w tag β) {x : ResultVar} {y : RV} (hm : mtcR P x y = true) {z : AV} (hz : y.val σ = some z) :
    ∃ v, (match x with | .tmp t => pure (a.tmps.getD t undef) | .cell t ty => do loadVar ty (← asAddr (a.tmps.getD t undef)) : Sem Value).run P w = .ok v w ∧ Rep w (Imm tag) w0.heap.size β v z := by
  cases x with
  | tmp t =>
    cases y <;> simp [mtcR] at hm
    subst hm
    simp only [RV.val, Option.some.injEq] at hz
    subst hz
    exact ⟨_, rfl, (h.get t).1⟩
  | cell t ty =>
    cases y with
    | t k => simp [mtcR] at hm
    | c k s ag =>
      simp only [mtcR, Bool.and_eq_true, beq_iff_eq] at hm
      obtain ⟨⟨rfl, h1⟩, h2⟩ := hm
      simp only [RV.val] at hz
      split at hz
      · rename_i r e
        split at hz
        · rename_i y hy
          have hr := (h.get t).1
          rw [e] at hr
          obtain ⟨b, p, v, hb, _, hva, hrv, hwd⟩ := h.var hy
          obtain ⟨b', o', sz', cap', len', hb', hv⟩ := h.pt_inv (by rw [hy]; trivial) hr
          rw [hb] at hb'; cases hb'
          obtain ⟨v', hrun, hr', _⟩ := load_part (P := P) h1 h2 hrv hva hz
          refine ⟨v', ?_, hr'⟩
          dsimp only
          rw [hv]
          simpa [Instr.loadAt, Instr.sureAddr, asAddr] using hrun
        · cases hz
      · cases hz

theorem rvs_sound (h : RR n w0 S0 σ a w tag β) : ∀ {xs : List ResultVar} {ys : List RV} {zs : List AV}, mtcRs P xs ys = true → RVs.val σ ys = some zs →
    ∃ vs : List Value, (xs.mapM fun | .tmp t => pure (a.tmps.getD t undef) | .cell t ty => do loadVar ty (← asAddr (a.tmps.getD t undef)) : Sem (List Value)).run P w = .ok vs w ∧ vs.length = zs.length ∧ ∀ (j : Nat) (z : AV), zs[j]? = some z → ∃ v, vs[j]? = some v ∧ Rep w (Imm tag) w0.heap.size β v z
  | [], [], zs, _, hz => by
    simp [RVs.val] at hz; subst hz
    exact ⟨[], by simp, rfl, by simp⟩
  | x :: xs, y :: ys, zs, hm, hz => by
    simp only [mtcRs, Bool.and_eq_true] at hm
    simp only [RVs.val] at hz
    split at hz
    · rename_i z zs' e1 e2
      cases hz
      obtain ⟨v, h1, h2⟩ := rv_sound h hm.1 e1
      obtain ⟨vs, h3, h4, h5⟩ := rvs_sound h hm.2 e2
      refine ⟨v :: vs, ?_, by simp [h4], fun j z hj => ?_⟩
      · simp only [List.mapM_cons, Sem.run_bind, h1, h3, Result.andThen_ok, Sem.run_pure]
      · cases j with
        | zero => simp at hj; subst hj; exact ⟨v, rfl, h2⟩
        | succ j => simp at hj; obtain ⟨u, hu, hr⟩ := h5 j z hj; exact ⟨u, by simpa using hu, hr⟩
    · cases hz
  | [], _ :: _, _, hm, _ => by simp [mtcRs] at hm
  | _ :: _, [], _, hm, _ => by simp [mtcRs] at hm

theorem tupd_rep {zs : List AV} {vs : List Value} {S : Nat → Prop} {B : Nat} (hl : vs.length = zs.length) (h : ∀ (j : Nat) (z : AV), zs[j]? = some z → ∃ v, vs[j]? = some v ∧ Rep w S B β v z) :
    Rep w S B β (if h : vs.toArray.size = 1 then vs.toArray[0] else .tuple vs.toArray) (tupd zs) ∧ (tupd zs).ments = mentsL zs := by
  match zs, vs, hl with
  | [z], [v], _ =>
    obtain ⟨u, hu, hr⟩ := h 0 z rfl
    simp at hu; subst hu
    exact ⟨by simpa [tupd] using hr, by simp [tupd, mentsL]⟩
  | [], [], _ => exact ⟨.tup _ _ rfl (by simp), by simp [tupd, AV.ments]⟩
  | z :: z' :: zs, v :: v' :: vs, hl =>
    refine ⟨?_, by simp [tupd, AV.ments]⟩
    rw [dif_neg (by simp)]
    refine .tup _ _ (by simpa using hl) fun j x hj => ?_
    obtain ⟨u, hu, hr⟩ := h j x hj
    have : (v :: v' :: vs).toArray.getD j undef = u := by
      rw [Array.getD_eq_getD_getElem?, List.getElem?_toArray, hu]; rfl
    rw [this]; exact hr

def mtcF (P : Program) (f k : Nat) (A : ACode) (V : List RV) : Bool := match P.funcs[f]? with
  | some fn => !(fn.name == "runtime.NumGoroutine") && decide (k ≤ fn.ntmps) && decide (fn.ntmps ≤ 1000000000) && mtcRs P fn.results.toList V && (match fn.body with | some c => mtcCode P fn.ntmps c A | none => false)
  | none => false

theorem look_start (k : Nat) : ∀ (args : List AV) (i : Nat), look k (St.start.go i args) = if i ≤ k then args[k - i]? else none
  | [], i => by simp [St.start.go, look]
  | x :: args, i => by
    simp only [St.start.go, look, look_start k args (i + 1)]
    by_cases h : i = k
    · subst h; simp
    · rw [if_neg h]
      by_cases h1 : i + 1 ≤ k
      · rw [if_pos h1, if_pos (by omega), show k - i = k - (i + 1) + 1 by omega]; simp
      · rw [if_neg h1, if_neg (by omega)]

theorem ok_of_body (hmix : P.follows .mixedOrders = true) {f k : Nat} {A : ACode} {V : List RV} {args : List AV} {res : AV} (hm : mtcF P f k A V = true) (hl : args.length = k) (h : Body (OkS P) A V args res) : Ok P f args res := by
  classical
  unfold mtcF at hm
  split at hm
  · rename_i fn hf
    split at hm
    · rename_i c hc
      simp only [Bool.and_eq_true, Bool.not_eq_true', decide_eq_true_eq] at hm
      obtain ⟨⟨⟨⟨m1, m2⟩, m5⟩, m3⟩, m4⟩ := hm
      refine ⟨⟨fn, hf, by rw [hc]; rfl, m1⟩, fun w S vs hS hvs hat => ?_⟩
      refine calls_of_wp hf hc ?_
      let tg : Nat → Tag := fun b => if S b then .imm else .out
      have hR : R fn.ntmps w ⟨S, w, tg, fun _ => none⟩ (St.start args) { tmps := vs ++ Array.replicate (fn.ntmps - vs.size) undef, defers := [] } w := by
        refine ⟨tg, fun _ => none, m5, .refl _ _, fun b _ _ => ⟨rfl, rfl⟩, fun b hb => ⟨hb, rfl⟩, fun r _ hl => by simp [St.start, look, isLive] at hl, .refl _ _, by simp; omega, rfl, hS, fun b hb => ?_, fun b hb => ?_, fun j x hj => ?_, fun r => ?_, fun r x hr => by simp [St.start, look] at hr⟩
        · by_cases e : S b
          · exact hS b e
          · simp [tg, e] at hb
        · by_cases e : S b <;> simp [tg, e]
        · simp only [St.start, look_start, Nat.zero_le, if_true, Nat.sub_zero] at hj
          have hr := hat j x hj
          have hjl : j < vs.size := by rw [hvs]; exact (List.getElem?_eq_some_iff.1 hj).1
          have e : (vs ++ Array.replicate (fn.ntmps - vs.size) undef).getD j undef = vs.getD j undef := by
            rw [Array.getD_eq_getD_getElem?, Array.getD_eq_getD_getElem?, Array.getElem?_append_left hjl]
          refine ⟨?_, fun q hq => by rw [hr.ments_nil] at hq; cases hq⟩
          dsimp only
          rw [e]
          exact .p _ _ (hr.mono fun b hb => ⟨.inl (by simp [tg, hb]), rfl⟩)
        · simp [St.start, look, RowOk]
      refine wp_mono (code_sound hmix m4 h hR) fun e a' w' hq => ?_
      have fin : ∀ τ, (∃ xs, RVs.val τ V = some xs ∧ (mentsL xs).Nodup ∧ lift τ.row 3 (tupd xs) = res) → R fn.ntmps w ⟨S, w, tg, fun _ => none⟩ τ a' w' →
          a'.defers = [] ∧ ∃ v, (results fn a'.tmps).run P w' = .ok v w' ∧ ∃ u fp S', (Ending.returned v) = .returned u ∧ Below w.heap.size w w' ∧ fp.Nodup ∧
            (∀ b, S' b → b < w'.heap.size ∧ (b < w.heap.size → S b)) ∧ RepP w' S' w.heap.size u res fp := by
        rintro τ ⟨xs, x1, x2, x3⟩ ⟨tag, β, hRR⟩
        refine ⟨hRR.nodef, ?_⟩
        obtain ⟨vs', v1, v2, v3⟩ := rvs_sound hRR m3 x1
        obtain ⟨t1, t2⟩ := tupd_rep v2 v3
        refine ⟨if h : vs'.toArray.size = 1 then vs'.toArray[0] else .tuple vs'.toArray, ?_, ?_⟩
        · unfold results
          have e : fn.results = fn.results.toList.toArray := by simp
          rw [e, List.mapM_toArray]
          simp only [Sem.run_bind, Sem.run_map]
          exact congrArg (fun r : Result (List Value) => (r.andThen fun a w' => Result.ok a.toArray w').andThen fun a w' => (pure (if h : a.size = 1 then a[0] else Value.tuple a) : Sem Value).run P w') v1
        · obtain ⟨fp, l1, l2, l3⟩ := hRR.lift (rs := (tupd xs).ments) (d := 0) 3 (tupd xs) _ t1 (by rw [t2]; exact x2) (fun r hr => hr)
          rw [x3] at l1
          refine ⟨_, fp, _, rfl, hRR.below, l2, fun b hb => ?_, l1⟩
          have hne : tag b ≠ .out := by
            refine hand_out (rs := (tupd xs).ments) (d := 0) ?_
            rcases hb with e | ⟨r, e⟩ <;> rw [e] <;> simp
          refine ⟨hRR.lt b hne, fun hlt => ?_⟩
          have := (hRR.old b hlt)
          exact this.1.1 (this.2.resolve_right hne)
      cases e with
      | normal => obtain ⟨τ, h1, h2⟩ := hq; exact fin τ h1 h2
      | ret => obtain ⟨τ, h1, h2⟩ := hq; exact fin τ h1 h2
      | exit id => obtain ⟨τ, h1, h2⟩ := hq; exact h1.elim
      | goto l => exact hq.elim
      | panic c => exact hq.elim
      | outgrown => exact hq.elim
    · simp at hm
  · cases hm

/-- the function's end, where rows go back: those named lr -/
def finM (rs : List RV) (lr : List Nat) (res : AV) (outs : List (Nat × Row)) : Ex → St → Prop
  | .nrm, σ | .ret, σ => ∃ xs, RVs.val σ rs = some xs ∧ tupd xs = res ∧ σ.resOk [] lr ∧ (∀ r ∈ res.ments, r ∈ lr) ∧ (σ.res [] lr).rows = outs
  | _, _ => False

theorem okM_of_body (hmix : P.follows .mixedOrders = true) {f k : Nat} {A : ACode} {V : List RV} {lr : List Nat} {args : List AV} {ins : List (Nat × Row)} {res : AV} {outs : List (Nat × Row)}
    (hm : mtcF P f k A V = true) (hl : args.length = k) (h : AWP (OkS P) A (finM V lr res outs) ⟨St.start.go 0 args, ins⟩) : OkM P f args ins res outs := by
  classical
  unfold mtcF at hm
  split at hm
  · rename_i fn hf
    split at hm
    · rename_i c hc
      simp only [Bool.and_eq_true, Bool.not_eq_true', decide_eq_true_eq] at hm
      obtain ⟨⟨⟨⟨m1, m2⟩, m5⟩, m3⟩, m4⟩ := hm
      refine ⟨⟨fn, hf, by rw [hc]; rfl, m1⟩, fun w0 w tag β vs hbel hold hlt hrows hwf hvs hat => ?_⟩
      refine calls_of_wp hf hc ?_
      let F : Fx := ⟨fun b => b < w0.heap.size ∧ tag b = .imm, w, tag, β⟩
      have hR : R fn.ntmps w0 F ⟨St.start.go 0 args, ins⟩ { tmps := vs ++ Array.replicate (fn.ntmps - vs.size) undef, defers := [] } w := by
        refine ⟨tag, β, m5, .refl _ _, fun b _ _ => ⟨rfl, rfl⟩, fun b hb => ⟨hb, rfl⟩, fun r _ _ => rfl, hbel, by simp; omega, rfl, fun b hb => hb.1, hlt, fun b hb => ⟨⟨fun e => ⟨hb, e⟩, fun e => e.2⟩, hold b hb⟩, fun j x hj => ?_, hrows, hwf⟩
        simp only [look_start, Nat.zero_le, if_true, Nat.sub_zero] at hj
        obtain ⟨hr, hd⟩ := hat j x hj
        have hjl : j < vs.size := by rw [hvs]; exact (List.getElem?_eq_some_iff.1 hj).1
        have e : (vs ++ Array.replicate (fn.ntmps - vs.size) undef).getD j undef = vs.getD j undef := by
          rw [Array.getD_eq_getD_getElem?, Array.getD_eq_getD_getElem?, Array.getElem?_append_left hjl]
        refine ⟨?_, hd⟩
        dsimp only
        rw [e]
        exact hr
      refine wp_mono (code_sound hmix m4 h hR) fun e a' w' hq => ?_
      have fin : ∀ τ, (∃ xs, RVs.val τ V = some xs ∧ tupd xs = res ∧ τ.resOk [] lr ∧ (∀ r ∈ res.ments, r ∈ lr) ∧ (τ.res [] lr).rows = outs) → R fn.ntmps w0 F τ a' w' →
          a'.defers = [] ∧ ∃ v, (results fn a'.tmps).run P w' = .ok v w' ∧ ∃ u tag' β', (Ending.returned v) = .returned u ∧ Below 0 w w' ∧ (∀ b, b < w.heap.size → tag b = .imm ∨ tag b = .out → tag' b = tag b ∧ w'.heap[b]? = w.heap[b]?) ∧
      (∀ b, Imm tag b → Imm tag' b ∧ w'.heap[b]? = w.heap[b]?) ∧ (∀ b, tag' b ≠ .out → b < w'.heap.size) ∧ (∀ r, RowOk w' tag' w0.heap.size β' r (look r outs)) ∧ Wf outs ∧
      (∀ r, 1000000000 ≤ r → isLive (look r outs) → β' r = β r) ∧ Rep w' (Imm tag') w0.heap.size β' u res ∧ ∀ r ∈ res.ments, (look r outs).isSome := by
        rintro τ ⟨xs, x1, x2, x3, x4, x5⟩ ⟨tag1, β1, hRR⟩
        refine ⟨hRR.nodef, ?_⟩
        obtain ⟨vs', v1, v2, v3⟩ := rvs_sound hRR m3 x1
        obtain ⟨t1, t2⟩ := tupd_rep v2 v3
        obtain ⟨tag2, β2, hR2, htr⟩ := hRR.res x3
        refine ⟨if h : vs'.toArray.size = 1 then vs'.toArray[0] else .tuple vs'.toArray, ?_, _, tag2, β2, rfl, hR2.frm, hR2.keep, hR2.kimm, hR2.lt, ?_, ?_, ?_, ?_, ?_⟩
        · unfold results
          have e : fn.results = fn.results.toList.toArray := by simp
          rw [e, List.mapM_toArray]
          simp only [Sem.run_bind, Sem.run_map]
          exact congrArg (fun r : Result (List Value) => (r.andThen fun a w' => Result.ok a.toArray w').andThen fun a w' => (pure (if h : a.size = 1 then a[0] else Value.tuple a) : Sem Value).run P w') v1
        · rw [← x5]; exact hR2.rows
        · rw [← x5]; exact hR2.wfr
        · rw [← x5]; exact hR2.bk
        · rw [← x2]
          exact htr _ _ t1 (by rw [x2]; exact x4)
        · intro r hr
          rw [← x5]
          show (look r (lr.map fun q => (q, (τ.row q).getD .dead))).isSome
          rw [look_keys, if_pos (x4 r hr)]; rfl
      cases e with
      | normal => obtain ⟨τ, h1, h2⟩ := hq; exact fin τ h1 h2
      | ret => obtain ⟨τ, h1, h2⟩ := hq; exact fin τ h1 h2
      | exit id => obtain ⟨τ, h1, h2⟩ := hq; exact h1.elim
      | goto l => exact hq.elim
      | panic c => exact hq.elim
      | outgrown => exact hq.elim
    · simp at hm
  · cases hm
end Vs

/- The arguments of a row: what is read there reads al an abstract value. -/
namespace Vs
open Go Go.RowKit

/-- the kinds of cells -/
inductive Lf where
  | int (k : IntKind)
  | bool
  | str
  | sl (ag : Bool) (ls : List Lf)

mutual
def Fits : Lf → AV → Prop
  | .int k, a => ∃ n, a = .sc (.int k n) ∧ (Lit.int k n).wf = true
  | .bool, a => ∃ b, a = .sc (.bool b)
  | .str, a => ∃ s, a = .sc (.string s) ∧ s.size ≤ maxLen
  | .sl ag ls, a => ∃ xs, a = .lst .o ls.length xs ∧ xs.length ≤ maxLen ∧ ∀ x ∈ xs, (ag = true → ∃ cs, x = .agg cs ∧ FitsL ls cs) ∧ (ag = false → FitsL ls [x])
def FitsL : List Lf → List AV → Prop
  | [], [] => True
  | l :: ls, a :: al => Fits l a ∧ FitsL ls al
  | _, _ => False
end

mutual
def lfs (P : Program) : Nat → TypeId → Option (Bool × List Lf)
  | 0, _ => none
  | k + 1, t => match P.underlying t with
    | some .bool => some (false, [.bool])
    | some (.int kd) => some (false, [.int kd])
    | some .string => some (false, [.str])
    | some (.slice e) => match lfs P k e with
      | some (ag, ls) => if P.cellsOf e = ls.length ∧ 0 < ls.length ∧ (ag = false → ls.length = 1) then some (false, [.sl ag ls]) else none
      | none => none
    | some (.struct fs) => match lfsF P k 0 fs.toList with
      | some ls => if P.cellsOf t = ls.length then some (true, ls) else none
      | none => none
    | _ => none
def lfsF (P : Program) : Nat → Nat → List Field → Option (List Lf)
  | _, _, [] => some []
  | 0, _, _ => none
  | k + 1, off, f :: fs => match lfs P k f.type with
    | some (_, ls) => if f.offset = off ∧ P.cellsOf f.type = ls.length then
        match lfsF P k (off + ls.length) fs with
        | some ms => some (ls ++ ms)
        | none => none
      else none
    | none => none
end

theorem FitsL_len : ∀ {ls : List Lf} {al : List AV}, FitsL ls al → ls.length = al.length
  | [], [], _ => rfl
  | l :: ls, a :: al, h => by simp only [FitsL] at h; simp [FitsL_len h.2]
  | [], _ :: _, h => by simp [FitsL] at h
  | _ :: _, [], h => by simp [FitsL] at h
theorem FitsL_append : ∀ {ls ms : List Lf} {al bs : List AV}, FitsL ls al → FitsL ms bs → FitsL (ls ++ ms) (al ++ bs)
  | [], ms, [], bs, _, h => h
  | l :: ls, ms, a :: al, bs, h, h' => by
    simp only [FitsL] at h
    simp only [List.cons_append, FitsL]
    exact ⟨h.1, FitsL_append h.2 h'⟩
  | [], _, _ :: _, _, h, _ => by simp [FitsL] at h
  | _ :: _, _, [], _, h, _ => by simp [FitsL] at h

/-- the cells read so -/
def CellsRead (w : World) (S : Nat → Prop) (cs : List Value) (ls : List Lf) : Prop :=
  ∃ al, FitsL ls al ∧ cs.length = al.length ∧ ∀ (j : Nat) (v : Value) (a : AV), cs[j]? = some v → al[j]? = some a → RepP w S w.heap.size v a [] ∧ v.oneCell' = true

theorem CellsRead.one {w : World} {S : Nat → Prop} {v : Value} {l : Lf} {a : AV} (h : Fits l a) (hr : RepP w S w.heap.size v a []) (h1 : v.oneCell' = true) : CellsRead w S [v] [l] :=
  ⟨[a], by simp only [FitsL]; exact ⟨h, trivial⟩, rfl, fun j u b hj hb => by
    cases j with
    | zero => simp at hj hb; subst hj; subst hb; exact ⟨hr, h1⟩
    | succ j => simp at hj⟩
theorem CellsRead.append {w : World} {S : Nat → Prop} {cs ds : List Value} {ls ms : List Lf} (h : CellsRead w S cs ls) (h' : CellsRead w S ds ms) : CellsRead w S (cs ++ ds) (ls ++ ms) := by
  obtain ⟨al, f1, l1, r1⟩ := h
  obtain ⟨bs, f2, l2, r2⟩ := h'
  refine ⟨al ++ bs, FitsL_append f1 f2, by simp [l1, l2], fun j v a hv ha => ?_⟩
  by_cases hj : j < cs.length
  · rw [List.getElem?_append_left hj] at hv
    rw [List.getElem?_append_left (by omega)] at ha
    exact r1 j v a hv ha
  · rw [List.getElem?_append_right (by omega)] at hv
    rw [List.getElem?_append_right (by omega)] at ha
    rw [← l1] at ha
    exact r2 _ v a hv ha

section
variable {H : Type} {enc : TypeId × Value → H} {P : Program} {w : World} {base : Nat} {spare : Nat → Bool} {held : Bool} {S : Nat → Prop}

theorem add_lit' (b o i : Nat) : (⟨b, o, none⟩ : Addr).add i = ⟨b, o + i, none⟩ := by
  simp [Addr.add_lit]

/-- the value made of an element's cells -/
def mkEl (ag : Bool) (cs : List Value) : Value := if ag then .agg cs.toArray else cs.headD undef

theorem cell_lt {a : Addr} {v : Value} (h : w.cell? a = some v) : a.block < w.heap.size ∧ a.spot = none := by
  unfold World.cell? at h
  split at h
  · rename_i e
    refine ⟨(Array.getElem?_eq_some_iff.1 e).1, ?_⟩
    cases hs : a.spot with
    | none => rfl
    | some s => simp [hs] at h
  · cases h

theorem trod_cells (hS : ∀ b, b < w.heap.size → S b) : ∀ (k : Nat),
    (∀ (fuel : Nat) (t : TypeId) (cs : List Value) (x : DataW H × List MemPlace) (ag : Bool) (ls : List Lf), DataW.trod enc P w base spare held fuel t cs = some x → lfs P k t = some (ag, ls) → CellsRead w S cs ls) ∧
    (∀ (fs : List Field) (off fuel : Nat) (cs : List Value) (ls : List Lf), lfsF P k off fs = some ls → (∀ f ∈ fs, ∃ x, DataW.trod enc P w base spare held fuel f.type ((cs.drop f.offset).take (P.cellsOf f.type)) = some x) →
      off + ls.length ≤ cs.length → CellsRead w S ((cs.drop off).take ls.length) ls)
  | 0 => by
    refine ⟨fun fuel t cs x ag ls h hl => by simp [lfs] at hl, fun fs off fuel cs ls hl _ _ => ?_⟩
    cases fs with
    | nil => simp [lfsF] at hl; subst hl; exact ⟨[], by simp [FitsL], by simp, by simp⟩
    | cons f fs => simp [lfsF] at hl
  | k + 1 => by
    obtain ⟨ih1, ih2⟩ := trod_cells hS k
    constructor
    · intro fuel t cs x ag ls h hl
      simp only [lfs] at hl
      split at hl
      · rename_i hu
        cases hl
        obtain ⟨b, rfl, _⟩ := DataW.trod_bool hu h
        exact .one ⟨b, rfl⟩ (.sc _ rfl) rfl
      · rename_i kd hu
        cases hl
        obtain ⟨n, rfl, _, hw⟩ := DataW.trod_int hu h
        exact .one ⟨n, rfl, hw⟩ (.sc _ rfl) rfl
      · rename_i hu
        cases hl
        obtain ⟨z, rfl, _, hw⟩ := DataW.trod_string hu h
        exact .one ⟨z, rfl, hw⟩ (.sc _ rfl) rfl
      · rename_i e hu
        split at hl
        · rename_i ag' ls' he
          split at hl
          · rename_i hc
            obtain ⟨c1, c2, c3⟩ := hc
            cases hl
            rcases Go.Deep.open_slice hu h with ⟨rfl, _⟩ | ⟨a, len, cap, m, n, D, Pl, rfl, hb, hle, hmx, hm, _, hx⟩
            · exact .one ⟨[], rfl, Nat.zero_le _, by simp⟩ (.nil0 _ _) rfl
            · have hlm : len ≤ m := by rw [hm]; split <;> omega
              have hsa0 : 0 < len → a.spot = none := by
                intro h0
                obtain ⟨cs', h1, _⟩ := hx 0 (by omega)
                rw [c1] at h1
                obtain ⟨_, hlen, hcell⟩ := World.cells?_some h1
                have := hcell 0 c2
                rw [List.getElem?_eq_getElem (by omega)] at this
                have := (cell_lt this).2
                simpa [Addr.add] using this
              -- the elements
              have hel : ∀ i, i < len → ∃ (v : Value) (y : AV), RepP w S w.heap.size v y [] ∧ v.cells.size = ls'.length ∧ ((ag' = true → ∃ cs, y = .agg cs ∧ FitsL ls' cs) ∧ (ag' = false → FitsL ls' [y])) ∧
                  (∀ j u, v.cells[j]? = some u → w.cell? (a.add (i * ls'.length + j)) = some u ∧ u.oneCell' = true) := by
                intro i hi
                obtain ⟨cs', h1, h2⟩ := hx i (by omega)
                rw [c1] at h1
                obtain ⟨_, hlen, hcell⟩ := World.cells?_some h1
                obtain ⟨al, f1, f2, f3⟩ := ih1 n e cs' _ ag' ls' h2 he
                have hll := FitsL_len f1
                have hcl : ∀ j u, cs'[j]? = some u → w.cell? (a.add (i * ls'.length + j)) = some u ∧ u.oneCell' = true := by
                  intro j u hj
                  have hjl : j < ls'.length := by rw [← hlen]; exact (List.getElem?_eq_some_iff.1 hj).1
                  refine ⟨?_, (f3 j u al[j] hj (List.getElem?_eq_getElem (by omega))).2⟩
                  have := hcell j hjl
                  rw [hj] at this
                  rw [← this]
                  congr 1
                  have hsa := hsa0 (by omega)
                  obtain ⟨b, o, sp⟩ := a
                  simp only at hsa; subst hsa
                  rw [add_lit', add_lit', add_lit', Nat.add_assoc]
                cases ag' with
                | true =>
                  have := RepP.agg (w := w) (S := S) (B := w.heap.size) cs'.toArray al (fun _ => []) (by simpa using f2) (fun x hx => by
                      obtain ⟨j, hj, rfl⟩ := List.getElem_of_mem (by simpa using hx : x ∈ cs')
                      exact (f3 j _ al[j] (List.getElem?_eq_getElem hj) (List.getElem?_eq_getElem (by omega))).2)
                    (fun j x hj => by
                      have hjl : j < cs'.length := by rw [f2]; exact (List.getElem?_eq_some_iff.1 hj).1
                      have e : cs'.toArray.getD j undef = cs'[j] := by simp [hjl]
                      rw [e]
                      exact (f3 j _ x (List.getElem?_eq_getElem hjl) hj).1)
                  rw [catL_nil _ _ fun _ _ => rfl] at this
                  exact ⟨.agg cs'.toArray, .agg al, this, by simp [Value.cells, hlen], ⟨fun _ => ⟨al, rfl, f1⟩, (fun e => by cases e)⟩, fun j u hj => hcl j u (by simpa [Value.cells] using hj)⟩
                | false =>
                  have hl1 := c3 rfl
                  match cs', al, hlen, f2, f1 with
                  | [v], [y], _, _, f1 =>
                    obtain ⟨r1, r2⟩ := f3 0 v y rfl rfl
                    have hvc : v.cells = #[v] := one_cells r2
                    refine ⟨v, y, r1, by rw [hvc, hl1]; rfl, ⟨(fun e => by cases e), fun _ => f1⟩, fun j u hj => ?_⟩
                    rw [hvc] at hj
                    exact hcl j u (by simpa using hj)
                  | [], _, hlen, _, _ => simp at hlen; omega
                  | _ :: _ :: _, _, hlen, _, _ => simp at hlen; omega
                  | [_], [], _, f2, _ => simp at f2
                  | [_], _ :: _ :: _, _, f2, _ => simp at f2
              rcases Nat.eq_zero_or_pos len with hl0 | hl0
              · subst hl0
                exact .one ⟨[], rfl, Nat.zero_le _, by simp⟩ (.nil _ _ _ _ ⟨fun e => by (cases e), fun e => by (cases e)⟩) rfl
              · have hex : ∃ (vs : Nat → Value) (ys : Nat → AV), ∀ i, i < len → RepP w S w.heap.size (vs i) (ys i) [] ∧ (vs i).cells.size = ls'.length ∧ ((ag' = true → ∃ cs, ys i = .agg cs ∧ FitsL ls' cs) ∧ (ag' = false → FitsL ls' [ys i])) ∧
                    (∀ j u, (vs i).cells[j]? = some u → w.cell? (a.add (i * ls'.length + j)) = some u ∧ u.oneCell' = true) := by
                  classical
                  refine ⟨fun i => if h : i < len then Classical.choose (hel i h) else undef, fun i => if h : i < len then Classical.choose (Classical.choose_spec (hel i h)) else .top, fun i hi => ?_⟩
                  simp only [dif_pos hi]
                  exact Classical.choose_spec (Classical.choose_spec (hel i hi))
                obtain ⟨vs, ys, hvs⟩ := hex
                obtain ⟨p0, p1, _, p3⟩ := hvs 0 hl0
                have h0 := p3 0 ((vs 0).cells[0]'(by omega)) (Array.getElem?_eq_getElem (by omega))
                have hsp := cell_lt h0.1
                have hsa := hsa0 hl0
                have hbl : a.block < w.heap.size := by
                  have := hsp.1
                  obtain ⟨b, o, sp⟩ := a
                  simp only at hsa; subst hsa
                  rw [add_lit'] at this; exact this
                obtain ⟨b, o, sp⟩ := a
                simp only at hsa hbl; subst hsa
                have := RepP.lst (w := w) (S := S) (B := w.heap.size) .o ls'.length b o len cap ((List.range len).map ys) vs (fun _ => []) (by simp) hle ⟨hS b hbl, hbl⟩ (fun e => by cases e)
                  (fun j x hj => by
                    have hjl : j < len := by simpa using (List.getElem?_eq_some_iff.1 hj).1
                    refine ⟨(hvs j hjl).2.1, fun i u hu => ?_⟩
                    have := (hvs j hjl).2.2.2 i u hu
                    rw [add_lit'] at this
                    rw [Nat.add_assoc]; exact this)
                  (fun j x hj => by
                    have hjl : j < len := by simpa using (List.getElem?_eq_some_iff.1 hj).1
                    simp only [List.getElem?_map, List.getElem?_range hjl, Option.map_some, Option.some.injEq] at hj
                    subst hj
                    exact (hvs j hjl).1)
                rw [catL_nil _ _ fun _ _ => rfl, if_neg (by intro e; cases e)] at this
                refine .one ⟨_, rfl, by simp; omega, fun x hx => ?_⟩ this rfl
                obtain ⟨i, hi, rfl⟩ := List.mem_map.1 hx
                exact (hvs i (by simpa using hi)).2.2.1
          · cases hl
        · cases hl
      · rename_i fs hu
        split at hl
        · rename_i ls' hf
          split at hl
          · rename_i hc
            cases hl
            obtain ⟨xs, n, _, _, hlen, hxs, hat⟩ := DataW.trod_struct hu h
            have := ih2 fs.toList 0 n cs ls hf (fun f hfm => by
              obtain ⟨i, hi, rfl⟩ := List.getElem_of_mem hfm
              have hi' : i < fs.size := by simpa using hi
              have := hat i fs[i] (Array.getElem?_eq_getElem hi')
              rw [List.getElem?_eq_getElem (by omega)] at this
              exact ⟨_, by simpa using this⟩) (by rw [hlen, hc]; omega)
            have e : (cs.drop 0).take ls.length = cs := by rw [List.drop_zero, ← hc, ← hlen, List.take_length]
            rwa [e] at this
          · cases hl
        · cases hl
      · cases hl
    · intro fs off fuel cs ls hl hat hle
      cases fs with
      | nil => simp [lfsF] at hl; subst hl; exact ⟨[], by simp [FitsL], by simp, by simp⟩
      | cons f fs =>
        simp only [lfsF] at hl
        split at hl
        · rename_i ag' ls' he
          split at hl
          · rename_i hc
            obtain ⟨c1, c2⟩ := hc
            split at hl
            · rename_i ms hms
              cases hl
              obtain ⟨x, hx⟩ := hat f (by simp)
              rw [c1, c2] at hx
              have r1 := ih1 fuel f.type _ x ag' ls' hx he
              have r2 := ih2 fs (off + ls'.length) fuel cs ms hms (fun g hg => hat g (by simp [hg])) (by simp at hle; omega)
              have := r1.append r2
              have e : (cs.drop off).take ls'.length ++ (cs.drop (off + ls'.length)).take ms.length = (cs.drop off).take (ls' ++ ms).length := by
                rw [List.length_append, List.take_add, List.drop_drop]
              rwa [e] at this
            · cases hl
          · cases hl
        · cases hl

/-- a row's argument: a value whose reading stands -/
theorem trod_arg (hS : ∀ b, b < w.heap.size → S b) {k : Nat} {t : TypeId} {v : Value} {d : DataW H} {ps : List MemPlace} {ag : Bool} {ls : List Lf} (h : DataW.Trod enc P w base spare held t v d ps) (hl : lfs P k t = some (ag, ls))
    (hag : ag = true → ∃ cs, v = .agg cs) (hag' : ag = false → v.cells = #[v] ∧ ls.length = 1) :
    ∃ y, RepP w S w.heap.size v y [] ∧ (ag = true → ∃ cs, y = .agg cs ∧ FitsL ls cs) ∧ (ag = false → FitsL ls [y]) := by
  obtain ⟨fuel, h⟩ := h
  obtain ⟨al, f1, f2, f3⟩ := (trod_cells hS k).1 fuel t _ _ ag ls h hl
  cases ag with
  | true =>
    obtain ⟨cs, rfl⟩ := hag rfl
    simp only [Value.cells] at f2 f3
    have := RepP.agg (w := w) (S := S) (B := w.heap.size) cs al (fun _ => []) (by simpa using f2) (fun x hx => by
        obtain ⟨j, hj, rfl⟩ := Array.mem_iff_getElem.1 hx
        have hjl : j < al.length := by rw [← f2]; simpa using hj
        exact (f3 j cs[j] al[j] (by simp [hj]) (List.getElem?_eq_getElem hjl)).2)
      (fun j x hj => by
        have hjl : j < cs.size := by have := (List.getElem?_eq_some_iff.1 hj).1; rw [← f2] at this; simpa using this
        have e : cs.getD j undef = cs[j] := by simp [hjl]
        rw [e]
        exact (f3 j _ x (by simp [hjl]) hj).1)
    rw [catL_nil _ _ fun _ _ => rfl] at this
    exact ⟨_, this, fun _ => ⟨al, rfl, f1⟩, (fun e => by cases e)⟩
  | false =>
    obtain ⟨h1, h2⟩ := hag' rfl
    rw [h1] at f2 f3
    match al, f2, f1 with
    | [y], _, f1 => exact ⟨y, (f3 0 v y rfl rfl).1, (fun e => by cases e), fun _ => f1⟩
end
end Vs

/- A row: from a function's contract to what the statement asks. -/
namespace Vs
open Go Go.RowKit

section
variable {H : Type} {enc : TypeId × Value → H} {P : Program} {w w' : World} {base : Nat} {sp : Nat → Bool} {held : Bool}

theorem trod_struct_map {fs : Array Field} {t : TypeId} {n : Nat} {cs : List Value} {x : DataW H × List MemPlace} (ht : P.underlying t = some (.struct fs)) (h : DataW.trod enc P w base sp held (n + 1) t cs = some x) :
    ∃ xs, fs.toList.mapM (fun f => DataW.trod enc P w base sp held n f.type ((cs.drop f.offset).take (P.cellsOf f.type))) = some xs ∧ x = (.agg (xs.map (·.1)), xs.flatMap (·.2)) ∧ cs.length = P.cellsOf t := by
  unfold DataW.trod at h
  rw [ht] at h
  split at h <;> simp_all
  obtain ⟨hl, xs, hp, hd⟩ := h
  exact ⟨xs, hp, hd.symm⟩

theorem trod_sp : ∀ (k : Nat),
    (∀ (fuel : Nat) (t : TypeId) (cs : List Value) (x : DataW H × List MemPlace) (ag : Bool) (ls : List Lf), DataW.trod enc P w base (fun _ => true) held fuel t cs = some x → lfs P k t = some (ag, ls) →
      (∀ p ∈ x.2, sp p.block = true) → DataW.trod enc P w base sp held fuel t cs = some x) ∧
    (∀ (fs : List Field) (off fuel : Nat) (cs : List Value) (ls : List Lf) (xs : List (DataW H × List MemPlace)), lfsF P k off fs = some ls →
      fs.mapM (fun f => DataW.trod enc P w base (fun _ => true) held fuel f.type ((cs.drop f.offset).take (P.cellsOf f.type))) = some xs → (∀ x ∈ xs, ∀ p ∈ x.2, sp p.block = true) →
      fs.mapM (fun f => DataW.trod enc P w base sp held fuel f.type ((cs.drop f.offset).take (P.cellsOf f.type))) = some xs)
  | 0 => by
    refine ⟨fun fuel t cs x ag ls h hl => by simp [lfs] at hl, fun fs off fuel cs ls xs hl hm _ => ?_⟩
    cases fs with
    | nil => simpa using hm
    | cons f fs => simp [lfsF] at hl
  | k + 1 => by
    obtain ⟨ih1, ih2⟩ := trod_sp k
    constructor
    · intro fuel t cs x ag ls h hl hs
      cases fuel with
      | zero => simp [DataW.trod] at h
      | succ fuel =>
      simp only [lfs] at hl
      split at hl
      · rename_i hu
        obtain ⟨b, rfl, rfl⟩ := DataW.trod_bool hu h
        simp only [DataW.trod, hu]
      · rename_i kd hu
        obtain ⟨n, rfl, rfl, hw⟩ := DataW.trod_int hu h
        simp only [DataW.trod, hu]
        simp [hw]
      · rename_i hu
        obtain ⟨z, rfl, rfl, hw⟩ := DataW.trod_string hu h
        simp only [DataW.trod, hu]
        simp [hw]
      · rename_i e hu
        split at hl
        · rename_i ag' ls' he
          split at hl
          · rename_i hc
            obtain ⟨c1, c2, c3⟩ := hc
            have hcs : cs = [.slice none 0 0] ∨ ∃ a len cap, cs = [.slice (some a) len cap] := by
              rcases Go.Deep.open_slice hu h with ⟨e, _⟩ | ⟨a, len, cap, _, _, _, _, e, _⟩
              · exact .inl e
              · exact .inr ⟨a, len, cap, e⟩
            rcases hcs with rfl | ⟨a, len, cap, rfl⟩
            · simp only [DataW.trod, hu] at h ⊢; exact h
            · simp only [DataW.trod, hu] at h ⊢
              split at h
              · rename_i hcc
                rw [if_pos hcc]
                simp only [Option.map_eq_some_iff, Option.bind_eq_some_iff, if_true] at h ⊢
                obtain ⟨elems, hel, rest, hrest, rfl⟩ := h
                have hlen : elems.length = len := by simpa using mapM_some_length hel
                have hrl : rest.length = cap - len := by simpa using mapM_some_length hrest
                have one : ∀ (i : Nat) (y : DataW H × List MemPlace), y ∈ elems ++ rest →
                    (w.cells? base (a.add (i * P.cellsOf e)) (P.cellsOf e)).bind (DataW.trod enc P w base (fun _ => true) held fuel e) = some y →
                    (w.cells? base (a.add (i * P.cellsOf e)) (P.cellsOf e)).bind (DataW.trod enc P w base sp held fuel e) = some y := by
                  intro i y hy hv
                  simp only [Option.bind_eq_some_iff] at hv ⊢
                  obtain ⟨cs', h1, h2⟩ := hv
                  refine ⟨cs', h1, ih1 fuel e cs' y ag' ls' h2 he fun p hp => hs p ?_⟩
                  simp only [List.mem_append, List.mem_flatMap]
                  right
                  exact ⟨y, by simpa using hy, hp⟩
                refine ⟨elems, mapM_carry hel (fun i y hi hy => one i y (by simp [hy])), rest, ?_, rfl⟩
                rcases Nat.eq_zero_or_pos (cap - len) with hz | hz
                · have : rest = [] := List.length_eq_zero_iff.1 (by omega)
                  subst this
                  rw [hz]; simp
                · have hsa : sp a.block = true := by
                    refine hs (.cell a.block (a.off + 0)) ?_
                    simp only [List.mem_append]
                    left
                    refine MemPlace.mem_row.2 ⟨0, ?_, rfl⟩
                    rw [hlen, hrl]
                    exact Nat.mul_pos (by omega) (by omega)
                  rw [if_pos hsa]
                  exact mapM_carry hrest (fun j y hj hy => one (len + j) y (by simp [hy]))
              · cases h
          · cases hl
        · cases hl
      · rename_i fs hu
        split at hl
        · rename_i ls' hf
          obtain ⟨xs, hmap, rfl, hlen⟩ := trod_struct_map hu h
          exact Go.ChangeShapes.trod_struct_mk hu hlen (ih2 fs.toList 0 fuel cs ls' xs hf hmap fun y hy p hp => hs p (List.mem_flatMap.2 ⟨y, hy, hp⟩))
        · cases hl
      · cases hl
    · intro fs off fuel cs ls xs hl hm hs
      cases fs with
      | nil => simpa using hm
      | cons f fs =>
        simp only [lfsF] at hl
        split at hl
        · rename_i ag' ls' he
          split at hl
          · split at hl
            · rename_i ms hms
              rw [List.mapM_cons] at hm ⊢
              cases hx : DataW.trod enc P w base (fun _ => true) held fuel f.type ((cs.drop f.offset).take (P.cellsOf f.type)) with
              | none => simp [hx] at hm
              | some y =>
                cases hys : fs.mapM (fun f => DataW.trod enc P w base (fun _ => true) held fuel f.type ((cs.drop f.offset).take (P.cellsOf f.type))) with
                | none => simp [hx, hys] at hm
                | some ys =>
                  simp [hx, hys] at hm
                  subst hm
                  rw [ih1 fuel f.type _ y ag' ls' hx he (fun p hp => hs y (by simp) p hp), ih2 fs _ fuel cs ms ys hms hys (fun z hz p hp => hs z (by simp [hz]) p hp)]
                  rfl
            · cases hl
          · cases hl
        · cases hl

def FitsA (s : Bool × List Lf) (y : AV) : Prop := (s.1 = true → ∃ cs, y = .agg cs ∧ FitsL s.2 cs) ∧ (s.1 = false → FitsL s.2 [y])
def FitsAll : List (Bool × List Lf) → List AV → Prop
  | [], [] => True
  | s :: ss, y :: ys => FitsA s y ∧ FitsAll ss ys
  | _, _ => False
def lfsAll (P : Program) (k : Nat) : List TypeId → Option (List (Bool × List Lf))
  | [] => some []
  | t :: ts => match lfs P k t, lfsAll P k ts with
    | some s, some ss => some (s :: ss)
    | _, _ => none

theorem okWide_cells {k b : Nat} {t : TypeId} {v : Value} {ag : Bool} {ls : List Lf} (hl : lfs P k t = some (ag, ls)) (h : Value.okWide P w .any b t v) :
    (ag = true → ∃ cs, v = .agg cs) ∧ (ag = false → v.cells = #[v] ∧ ls.length = 1) := by
  cases k with
  | zero => simp [lfs] at hl
  | succ k =>
    simp only [lfs] at hl
    unfold Value.okWide at h
    split at hl
    · rename_i hu
      cases hl
      rw [hu] at h
      simp only at h
      refine ⟨(fun e => by cases e), fun _ => ⟨?_, rfl⟩⟩
      unfold Cell.okWide Cell.ok at h
      rw [hu] at h
      cases v <;> first | rfl | simp at h
    · rename_i kd hu
      cases hl
      rw [hu] at h
      simp only at h
      refine ⟨(fun e => by cases e), fun _ => ⟨?_, rfl⟩⟩
      unfold Cell.okWide Cell.ok at h
      rw [hu] at h
      cases v <;> first | rfl | simp at h
    · rename_i hu
      cases hl
      rw [hu] at h
      simp only at h
      refine ⟨(fun e => by cases e), fun _ => ⟨?_, rfl⟩⟩
      unfold Cell.okWide Cell.ok at h
      rw [hu] at h
      cases v <;> first | rfl | simp at h
    · rename_i e hu
      split at hl
      · split at hl
        · cases hl
          rw [hu] at h
          simp only at h
          refine ⟨(fun e => by cases e), fun _ => ⟨?_, rfl⟩⟩
          unfold Cell.okWide Cell.ok at h
          rw [hu] at h
          cases v <;> first | rfl | simp at h
        · cases hl
      · cases hl
    · rename_i fs hu
      split at hl
      · split at hl
        · cases hl
          rw [hu] at h
          simp only at h
          obtain ⟨cs, rfl, _⟩ := h
          exact ⟨fun _ => ⟨cs, rfl⟩, (fun e => by cases e)⟩
        · cases hl
      · cases hl
    · cases hl

theorem args_rep {S : Nat → Prop} {k b0 : Nat} (hS : ∀ b, b < w.heap.size → S b) : ∀ {ts : List TypeId} {vs : List Value} {ds : List (DataW H)} {ps : List MemPlace} {ss : List (Bool × List Lf)}, DataW.TrodAll enc P w base sp held ts vs ds ps → lfsAll P k ts = some ss →
    (∀ (j : Nat) t v, ts[j]? = some t → vs[j]? = some v → Value.okWide P w .any b0 t v) →
    ∃ ys, FitsAll ss ys ∧ ys.length = vs.length ∧ ∀ (j : Nat) (v : Value) (y : AV), vs[j]? = some v → ys[j]? = some y → RepP w S w.heap.size v y []
  | [], [], [], ps, ss, _, hl, _ => by
    simp [lfsAll] at hl; subst hl
    exact ⟨[], trivial, rfl, by simp⟩
  | t :: ts, v :: vs, d :: ds, ps, ss, h, hl, hok => by
    obtain ⟨p, q, h1, h2, _⟩ := h
    simp only [lfsAll] at hl
    split at hl
    · rename_i s ss' e1 e2
      cases hl
      obtain ⟨ag, ls⟩ := s
      obtain ⟨c1, c2⟩ := okWide_cells e1 (hok 0 t v rfl rfl)
      obtain ⟨y, r1, r2, r3⟩ := trod_arg hS h1 e1 c1 c2
      obtain ⟨ys, f1, f2, f3⟩ := args_rep hS h2 e2 fun j t v ht hv => hok (j + 1) t v (by simpa using ht) (by simpa using hv)
      refine ⟨y :: ys, ⟨⟨r2, r3⟩, f1⟩, by simp [f2], fun j u z hu hz => ?_⟩
      cases j with
      | zero => simp at hu hz; subst hu; subst hz; exact r1
      | succ j => exact f3 j u z (by simpa using hu) (by simpa using hz)
    · cases hl
  | [], _ :: _, _, _, _, h, _, _ => by simp [DataW.TrodAll] at h
  | [], [], _ :: _, _, _, h, _, _ => by simp [DataW.TrodAll] at h
  | _ :: _, [], _, _, _, h, _, _ => by simp [DataW.TrodAll] at h
  | _ :: _, _ :: _, [], _, _, h, _, _ => by simp [DataW.TrodAll] at h

theorem args_same {k : Nat} : ∀ {ts : List TypeId} {vs : List Value} {ds : List (DataW H)} {ps : List MemPlace} {ss : List (Bool × List Lf)}, DataW.TrodAll enc P w base (fun _ => true) held ts vs ds ps → lfsAll P k ts = some ss →
    (∀ p ∈ ps, w.sameAt w' p) → (∀ p ∈ ps, sp p.block = true) → DataW.TrodAll enc P w' base sp held ts vs ds ps
  | [], [], [], ps, ss, h, _, _, _ => h
  | t :: ts, v :: vs, d :: ds, ps, ss, h, hl, hs, hsp => by
    obtain ⟨p, q, ⟨fuel, h1⟩, h2, rfl⟩ := h
    simp only [lfsAll] at hl
    split at hl
    · rename_i s ss' e1 e2
      exact ⟨p, q, ⟨fuel, DataW.trod_carry fuel t _ _ ((trod_sp k).1 fuel t _ _ s.1 s.2 h1 e1 fun x hx => hsp x (by simp [show x ∈ p from hx])) fun x hx => hs x (by simp [show x ∈ p from hx])⟩,
        args_same h2 e2 (fun x hx => hs x (by simp [hx])) (fun x hx => hsp x (by simp [hx])), rfl⟩
    · cases hl
  | [], _ :: _, _, _, _, h, _, _, _ => by simp [DataW.TrodAll] at h
  | [], [], _ :: _, _, _, h, _, _, _ => by simp [DataW.TrodAll] at h
  | _ :: _, [], _, _, _, h, _, _, _ => by simp [DataW.TrodAll] at h
  | _ :: _, _ :: _, [], _, _, h, _, _, _ => by simp [DataW.TrodAll] at h

/-- A law's contract is what its row asks. -/
theorem law_calls {f k b0 : Nat} {fn : Func} {s : ChangeSpec} {tb : TypeId} {ss : List (Bool × List Lf)} {again : Bool} {apart fresh : Bool} (hvars : s.vars = [])
    (hfn : ∀ ds : List (DataW H), ds.length = fn.params.size → s.fn H ds = { results := [.lit (.bool true)], args := ds }) (hres : fn.resultTypes = #[tb]) (htb : P.underlying tb = some .bool) (hsh : lfsAll P k fn.params.toList = some ss)
    (hok : ∀ ys, FitsAll ss ys → Ok P f ys (.b true)) {args : Array Value} {ds gs : List (DataW H)} {before : List MemPlace}
    (hval : ∀ (j : Nat) t v, fn.params[j]? = some t → args[j]? = some v → Value.okWide P w .any b0 t v)
    (hW : DataW.Whole enc P fn.params.toList s.vars apart w args.toList ds gs before) :
    Calls P f args w fun e W' => ∃ v, e = .returned v ∧ s.post enc P fn apart fresh false again w args v W' := by
  have hW' := hW
  have hlt := hW.lt
  obtain ⟨p, q, hA, hV, rfl, hfz, hnd⟩ := hW
  rw [hvars] at hV
  obtain ⟨rfl, rfl⟩ := Go.ChangeShapes.trodVars_none hV
  obtain ⟨ys, f1, f2, f3⟩ := args_rep (S := fun b => b < w.heap.size) (k := k) (b0 := b0) (fun b hb => hb) hA hsh (fun j t v ht hv => hval j t v (by simpa using ht) (by simpa using hv))
  have hlen : ∀ {ts : List TypeId} {vs : List Value} {ds : List (DataW H)} {ps : List MemPlace}, DataW.TrodAll enc P w 0 (fun _ => true) true ts vs ds ps → ds.length = ts.length := by
    intro ts
    induction ts with
    | nil => intro vs ds ps h; cases vs <;> cases ds <;> simp_all [DataW.TrodAll]
    | cons t ts ih =>
      intro vs ds ps h
      cases vs <;> cases ds <;> simp only [DataW.TrodAll] at h
      obtain ⟨_, _, _, h2, _⟩ := h
      simp [ih h2]
  have hdl := hlen hA
  refine ((hok ys f1).2 w (fun b => b < w.heap.size) args (fun b hb => hb) (by simpa using f2.symm) (fun j x hj => ?_)).mono ?_
  · have hjl : j < args.size := by rw [← Array.length_toList, ← f2]; exact (List.getElem?_eq_some_iff.1 hj).1
    have e : args.getD j undef = args[j] := by simp [hjl]
    rw [e]
    exact f3 j _ x (by simp [hjl]) hj
  · rintro e W' ⟨v, fp, S', rfl, hbel, _, _, hr⟩
    have hv : v = .bool true := by cases hr; rfl
    subst hv
    refine ⟨_, rfl, ?_⟩
    have hfd := hfn (ds ++ []) (by simpa using hdl)
    refine Go.ChangeShapes.post_of_same (pa := p) (pv := []) hW' (fun b sp' hd => ?_) (fun sp' hsp => ?_) (fun sp' _ => ?_) rfl (hbel.bel.frame _) hbel.frz (ok_one hres rfl (okWide_bool_mk htb _))
    · rw [hfd, hres]
      exact ⟨[], [], shut_bool htb _, rfl, rfl⟩
    · rw [hfd]
      simp only [List.append_nil]
      exact args_same hA hsh (fun x hx => hbel.bel.same (hlt x (by simp [hx]))) (fun x hx => hsp x (by simp [hx]))
    · rw [hfd, hvars]; rfl
end
end Vs

/- Rules by which a printed model answers for a walk: outcomes, joins, loops. -/
namespace Vs
open Go

section
variable {ok : Oks}

theorem tst_mono {x : AV} {A B A' B' : Prop} (h : tst x A B) (ha : A → A') (hb : B → B') : tst x A' B' := by
  unfold tst at h
  split at h
  · exact ⟨fun e => ha (h.1 e), fun e => hb (h.2 e)⟩
  · exact h.elim
theorem stOps_mono {K K' : St → Prop} (hk : ∀ τ, K τ → K' τ) : ∀ (os : List AOper) (σ : St), stOps ok os K σ → stOps ok os K' σ
  | [], σ, h => hk σ h
  | o :: os, σ, h => by
    have ih := stOps_mono hk os
    simp only [stOps, stOp] at h ⊢
    have go : ∀ υ, goOn ok o.d o.op (stOps ok os K) υ → goOn ok o.d o.op (stOps ok os K') υ := fun υ h =>
      (eff_det o.op).mono h fun v u h => ih _ h
    cases hg : o.gd with
    | none => rw [hg] at h; exact go σ h
    | some p =>
      obtain ⟨s, b⟩ := p
      rw [hg] at h
      simp only [guardd] at h
      split at h
      · rename_i t e
        simp only [e, guardd]
        exact ⟨fun e => go _ (h.1 e), fun e => ih _ (h.2 e)⟩
      · rename_i e
        simp only [e, guardd]
        exact ih _ h
      · exact h.elim
theorem awp_mono : ∀ (ac : ACode) {Q Q' : Ex → St → Prop} {σ : St}, AWP ok ac Q σ → (∀ e τ, Q e τ → Q' e τ) → AWP ok ac Q' σ
  | .skip, _, _, _, h, hq => hq _ _ h
  | .reg ops can, _, _, _, h, hq => by
    simp only [AWP] at h ⊢
    exact stOps_mono (fun τ h => hq _ _ h) _ _ h
  | .drw ops can, _, _, _, h, hq => by
    simp only [AWP] at h ⊢
    exact stOps_mono (fun τ h => hq _ _ h) _ _ h
  | .seq a b, _, _, _, h, hq => by
    simp only [AWP] at h ⊢
    refine awp_mono a h fun e τ h => ?_
    cases e with
    | nrm => exact awp_mono b h hq
    | ex id => exact hq _ _ h
    | ret => exact hq _ _ h
  | .seqr a lv lr b, _, _, _, h, hq => by
    simp only [AWP] at h ⊢
    refine awp_mono a h fun e τ h => ?_
    cases e with
    | nrm => exact ⟨h.1, awp_mono b h.2 hq⟩
    | ex id => exact hq _ _ h
    | ret => exact hq _ _ h
  | .seqa x a lv lr b, _, _, _, h, hq => by
    simp only [AWP] at h ⊢
    refine awp_mono x h fun e τ h => ?_
    cases e with
    | nrm =>
      refine awp_mono a h fun e τ h => ?_
      cases e with
      | nrm => exact ⟨h.1, awp_mono b h.2 hq⟩
      | ex id => exact hq _ _ h
      | ret => exact hq _ _ h
    | ex id => exact hq _ _ h
    | ret => exact hq _ _ h
  | .cond x a b, _, _, _, h, hq => by
    simp only [AWP] at h ⊢
    exact tst_mono h (fun h => awp_mono a h hq) (fun h => awp_mono b h hq)
  | .blk id a, _, _, _, h, hq => by
    simp only [AWP] at h ⊢
    refine awp_mono a h fun e τ h => ?_
    cases e with
    | nrm => exact hq _ _ h
    | ex j =>
      simp only [inb] at h ⊢
      split
      · rename_i e; rw [if_pos e] at h; exact hq _ _ h
      · rename_i e; rw [if_neg e] at h; exact hq _ _ h
    | ret => exact hq _ _ h
  | .loop a, _, _, _, h, hq => by
    simp only [AWP] at h ⊢
    obtain ⟨lv, lr, I, μ, h1, h2, h3⟩ := h
    refine ⟨lv, lr, I, μ, h1, h2, fun τ hI => awp_mono a (h3 τ hI) fun e τ h => ?_⟩
    cases e with
    | nrm => exact h
    | ex id => exact hq _ _ h
    | ret => exact hq _ _ h
  | .exit id, _, _, _, h, hq => by simp only [AWP] at h ⊢; exact hq _ _ h
  | .ret, _, _, _, h, hq => by simp only [AWP] at h ⊢; exact hq _ _ h

/-! ### models -/
def iter {S B : Type} (f : S → Option (S ⊕ B)) : Nat → S → Option B
  | 0, _ => none
  | n + 1, s => match f s with
    | none => none
    | some (.inl s') => iter f n s'
    | some (.inr b) => some b

/-- in the shape sh v, after a cut to the slots lv and the rows lr -/
def Shp {S : Type} (lv lr : List Nat) (sh : S → St) (v : S) (τ : St) : Prop := τ.resOk lv lr ∧ τ.res lv lr = sh v
/-- the outcome 'the block id is left' -/
def qX {S : Type} (id : Nat) (lv lr : List Nat) (sh : S → St) (v : S) (e : Ex) (τ : St) : Prop := e = .ex id ∧ Shp lv lr sh v τ
/-- the outcome 'the function returns' -/
def qR {R : Type} (V : List RV) (emb : R → AV) (r : R) (e : Ex) (τ : St) : Prop := e = .ret ∧ fin V (emb r) .ret τ
/-- the outcome 'the function returns, and hands rows back' -/
def qM {R : Type} (V : List RV) (lr : List Nat) (emb : R → AV) (out : R → List (Nat × Row)) (r : R) (e : Ex) (τ : St) : Prop := e = .ret ∧ finM V lr (emb r) (out r) .ret τ
theorem finM_ret (rs : List RV) (lr : List Nat) (res : AV) (outs : List (Nat × Row)) (σ : St) : finM rs lr res outs .ret σ = opt (RVs.val σ rs) fun xs => tupd xs = res ∧ σ.resOk [] lr ∧ (∀ r ∈ res.ments, r ∈ lr) ∧ (σ.res [] lr).rows = outs := by
  simp only [finM, opt]; cases RVs.val σ rs <;> simp
theorem finM_nrm (rs : List RV) (lr : List Nat) (res : AV) (outs : List (Nat × Row)) (σ : St) : finM rs lr res outs .nrm σ = opt (RVs.val σ rs) fun xs => tupd xs = res ∧ σ.resOk [] lr ∧ (∀ r ∈ res.ments, r ∈ lr) ∧ (σ.res [] lr).rows = outs := by
  simp only [finM, opt]; cases RVs.val σ rs <;> simp
theorem oks_p (P : Program) : (OkS P).p = Ok P := rfl
theorem oks_m (P : Program) : (OkS P).m = OkM P := rfl
def qS {A B : Type} (q : A → Ex → St → Prop) (q' : B → Ex → St → Prop) : A ⊕ B → Ex → St → Prop
  | .inl a => q a
  | .inr b => q' b
/-- a loop's round: goes on, or leaves -/
def qL {S B : Type} (lv lr : List Nat) (sh : S → St) (q : B → Ex → St → Prop) : S ⊕ B → Ex → St → Prop
  | .inl s, e, τ => e = .nrm ∧ Shp lv lr sh s τ
  | .inr b, e, τ => e ≠ .nrm ∧ q b e τ
/-- what stands ahead of a join: goes on, or leaves -/
def qJ {S B : Type} (lv lr : List Nat) (sh : S → St) (q : B → Ex → St → Prop) : S ⊕ B → Ex → St → Prop
  | .inl s, e, τ => e = .nrm ∧ Shp lv lr sh s τ
  | .inr b, e, τ => e ≠ .nrm ∧ q b e τ
def qJ0 {S : Type} (lv lr : List Nat) (sh : S → St) (s : S) (e : Ex) (τ : St) : Prop := e = .nrm ∧ Shp lv lr sh s τ

theorem loop_rule {S B : Type} {lv lr : List Nat} {sh : S → St} {f : S → Option (S ⊕ B)} {q : B → Ex → St → Prop} {a : ACode}
    (hb : ∀ s o, f s = some o → AWP ok a (qL lv lr sh q o) (sh s)) {n : Nat} {s0 : S} {b : B} (h : iter f n s0 = some b) {σ : St} (hs : Shp lv lr sh s0 σ) : AWP ok (.loop a) (q b) σ := by
  classical
  let p : St → Nat → Prop := fun τ m => ∃ s, τ = sh s ∧ iter f m s = some b
  refine awp_loop lv lr (fun τ => ∃ m, p τ m) (fun τ => if h : ∃ m, p τ m then Classical.choose (least h) else 0) hs.1 ⟨n, s0, hs.2, h⟩ ?_
  intro τ hI
  simp only [dif_pos hI]
  obtain ⟨hp, hmin⟩ := Classical.choose_spec (least hI)
  generalize Classical.choose (least hI) = m at hp hmin
  obtain ⟨s, rfl, hit⟩ := hp
  cases m with
  | zero => cases hit
  | succ m =>
    simp only [iter] at hit
    cases hf : f s with
    | none => rw [hf] at hit; cases hit
    | some o =>
      refine awp_mono a (hb s o hf) fun e τ' hq => ?_
      rw [hf] at hit
      cases o with
      | inl s' =>
        obtain ⟨rfl, h1, h2⟩ := hq
        have hI2 : ∃ k, p (τ'.res lv lr) k := ⟨m, s', h2, hit⟩
        refine ⟨h1, hI2, ?_⟩
        simp only [dif_pos hI2]
        obtain ⟨_, hmin2⟩ := Classical.choose_spec (least hI2)
        have := hmin2 m ⟨s', h2, hit⟩
        omega
      | inr b' =>
        obtain ⟨h1, h2⟩ := hq
        simp only [Option.some.injEq] at hit; subst hit
        cases e with
        | nrm => exact (h1 rfl).elim
        | ex id => exact h2
        | ret => exact h2

/-- a join behind which several ways go on -/
theorem join_rule {S B : Type} {lv lr : List Nat} {sh : S → St} {q : B → Ex → St → Prop} {a b : ACode} {Q : Ex → St → Prop} {σ : St} {o : S ⊕ B}
    (ha : AWP ok a (qJ lv lr sh q o) σ) (hb : ∀ s, o = .inl s → AWP ok b Q (sh s)) (hx : ∀ x, o = .inr x → ∀ e τ, e ≠ .nrm → q x e τ → Q e τ) : AWP ok (.seqr a lv lr b) Q σ := by
  simp only [AWP]
  refine awp_mono a ha fun e τ h => ?_
  cases o with
  | inl s =>
    obtain ⟨rfl, h1, h2⟩ := h
    exact ⟨h1, h2 ▸ hb s rfl⟩
  | inr x =>
    obtain ⟨h1, h2⟩ := h
    cases e with
    | nrm => exact (h1 rfl).elim
    | ex id => exact hx x rfl _ _ h1 h2
    | ret => exact hx x rfl _ _ h1 h2
theorem join_rule0 {S : Type} {lv lr : List Nat} {sh : S → St} {a b : ACode} {Q : Ex → St → Prop} {σ : St} {s : S}
    (ha : AWP ok a (qJ0 lv lr sh s) σ) (hb : AWP ok b Q (sh s)) : AWP ok (.seqr a lv lr b) Q σ := by
  simp only [AWP]
  refine awp_mono a ha fun e τ h => ?_
  obtain ⟨rfl, h1, h2⟩ := h
  exact ⟨h1, h2 ▸ hb⟩
/-- a loop that is left by its own block alone, or by other ways -/
theorem blk_rule {S B : Type} {id : Nat} {lv lr : List Nat} {sh : S → St} {q : B → Ex → St → Prop} {a : ACode} {σ : St} {o : S ⊕ B} (hq : ∀ b e τ, q b e τ → e ≠ .nrm ∧ e ≠ .ex id)
    (ha : AWP ok a (qS (qX id lv lr sh) q o) σ) : AWP ok (.blk id a) (qJ lv lr sh q o) σ := by
  simp only [AWP]
  refine awp_mono a ha fun e τ h => ?_
  cases o with
  | inl s =>
    obtain ⟨rfl, h1⟩ := h
    simp only [inb, if_true]
    exact ⟨rfl, h1⟩
  | inr x =>
    have := hq x e τ h
    cases e with
    | nrm => exact (this.1 rfl).elim
    | ex j =>
      simp only [inb]
      rw [if_neg fun e => this.2 (by rw [e])]
      exact ⟨this.1, h⟩
    | ret => exact ⟨this.1, h⟩
theorem blk_rule0 {S : Type} {id : Nat} {lv lr : List Nat} {sh : S → St} {a : ACode} {σ : St} {s : S} (ha : AWP ok a (qX id lv lr sh s) σ) : AWP ok (.blk id a) (qJ0 lv lr sh s) σ := by
  simp only [AWP]
  refine awp_mono a ha fun e τ h => ?_
  obtain ⟨rfl, h1⟩ := h
  simp only [inb, if_true]
  exact ⟨rfl, h1⟩

theorem bind_s {α β : Type} {m : Option α} {f : α → Option β} {r : β} (h : m.bind f = some r) : ∃ x, m = some x ∧ f x = some r := by
  cases m with
  | none => cases h
  | some x => exact ⟨x, rfl, h⟩
theorem cond_t {α : Type} {c : Bool} {x y z : α} (hc : c = true) (h : cond c x y = z) : x = z := by subst hc; exact h
theorem cond_f {α : Type} {c : Bool} {x y z : α} (hc : c = false) (h : cond c x y = z) : y = z := by subst hc; exact h

/-- an element by its index -/
def geti {α : Type} (xs : List α) (i : Int) : Option α := if 0 ≤ i then xs[i.toNat]? else none
theorem geti_s {α : Type} {xs : List α} {i : Int} {x : α} (h : geti xs i = some x) : 0 ≤ i ∧ xs[i.toNat]? = some x := by
  unfold geti at h
  split at h
  · exact ⟨‹_›, h⟩
  · cases h
/-- an index that is in range -/
def chk (i : Int) (n : Nat) : Option Nat := if 0 ≤ i ∧ i < n then some i.toNat else none
theorem chk_s {i : Int} {n k : Nat} (h : chk i n = some k) : 0 ≤ i ∧ i < n ∧ i.toNat = k := by
  unfold chk at h
  split at h
  · rename_i e; cases h; exact ⟨e.1, e.2, rfl⟩
  · cases h
/-- a condition that Go's own run asks -/
def grd (p : Prop) [Decidable p] : Option Unit := if p then some () else none
theorem grd_s {p : Prop} [Decidable p] {u : Unit} (h : grd p = some u) : p := by
  unfold grd at h
  split at h
  · assumption
  · cases h
/-- a compound value gets a name -/
def bnd {α β : Type} (a : α) (f : α → Option β) : Option β := f a
theorem bnd_s {α β : Type} {a : α} {f : α → Option β} {r : β} (h : bnd a f = some r) : ∃ x, a = x ∧ f x = some r := ⟨a, rfl, h⟩
theorem bt (c : Bool) : c = true ∨ c = false := by cases c <;> simp
/-- a byte of a string -/
def getz (s : ByteArray) (i : Int) : Option UInt8 := if 0 ≤ i then s[i.toNat]? else none
theorem getz_s {s : ByteArray} {i : Int} {x : UInt8} (h : getz s i = some x) : 0 ≤ i ∧ s[i.toNat]? = some x := by
  unfold getz at h
  split at h
  · exact ⟨‹_›, h⟩
  · cases h
/-- how many rounds a loop may take: more than memory allows -/
def N0 : Nat := 2 ^ 64
def subT {α : Type} (es : List α) (i n : Nat) : List α := if i = 0 ∧ n = es.length then es else (es.drop i).take n
theorem sub_mapT {α : Type} (f : α → AV) (xs : List α) (i n : Nat) : sub (xs.map f) i n = (subT xs i n).map f := by
  unfold sub subT
  simp only [List.length_map]
  split
  · rfl
  · rw [List.map_take, List.map_drop]
theorem subT_all {α : Type} (xs : List α) : subT xs 0 xs.length = xs := by simp [subT]
theorem sub_n {α : Type} (f : α → AV) {xs : List α} {n : Nat} (h : n = xs.length) : sub (xs.map f) 0 n = xs.map f := by rw [sub_mapT, h, subT_all]
/-- s[:hi], s[lo:], s[lo:hi] -/
def slT {α : Type} (xs : List α) (hi : Int) : Option (List α) := if 0 ≤ hi ∧ hi.toNat ≤ xs.length then some (xs.take hi.toNat) else none
def slF {α : Type} (xs : List α) (lo : Int) : Option (List α) := if 0 ≤ lo ∧ lo.toNat ≤ xs.length then some (xs.drop lo.toNat) else none
def slB {α : Type} (xs : List α) (lo hi : Int) : Option (List α) := if 0 ≤ lo ∧ 0 ≤ hi ∧ lo.toNat ≤ hi.toNat ∧ hi.toNat ≤ xs.length then some ((xs.drop lo.toNat).take (hi.toNat - lo.toNat)) else none
theorem subT_drop {α : Type} (xs : List α) (i n : Nat) : subT xs i n = (xs.drop i).take n := by
  unfold subT
  split
  · rename_i h; rw [h.1, h.2]; simp
  · rfl
theorem slT_s {α : Type} (f : α → AV) {xs ys : List α} {hi : Int} (h : slT xs hi = some ys) : True ∧ 0 ≤ hi ∧ True ∧ hi.toNat ≤ xs.length ∧ sub (xs.map f) 0 hi.toNat = ys.map f := by
  unfold slT at h
  split at h
  · rename_i e
    cases h
    exact ⟨trivial, e.1, trivial, e.2, by rw [sub_mapT, subT_drop]; simp⟩
  · cases h
theorem slF_s {α : Type} (f : α → AV) {xs ys : List α} {lo : Int} (h : slF xs lo = some ys) : 0 ≤ lo ∧ True ∧ lo.toNat ≤ xs.length ∧ True ∧ sub (xs.map f) lo.toNat (xs.length - lo.toNat) = ys.map f := by
  unfold slF at h
  split at h
  · rename_i e
    cases h
    exact ⟨e.1, trivial, e.2, trivial, by rw [sub_mapT, subT_drop, List.take_of_length_le (by simp)]⟩
  · cases h
theorem slB_s {α : Type} (f : α → AV) {xs ys : List α} {lo hi : Int} (h : slB xs lo hi = some ys) : 0 ≤ lo ∧ 0 ≤ hi ∧ lo.toNat ≤ hi.toNat ∧ hi.toNat ≤ xs.length ∧ sub (xs.map f) lo.toNat (hi.toNat - lo.toNat) = ys.map f := by
  unfold slB at h
  split at h
  · rename_i e
    cases h
    exact ⟨e.1, e.2.1, e.2.2.1, e.2.2.2, by rw [sub_mapT, subT_drop]⟩
  · cases h
/-- a smaller cut of a state of a known shape -/
theorem Shp.sub {S S' : Type} {lv lr lv' lr' : List Nat} {sh : S → St} {sh' : S' → St} {s : S} {s' : S'} {τ : St} (h : Shp lv lr sh s τ)
    (h1 : ∀ k ∈ lv', k ∈ lv) (h2 : ∀ r ∈ lr', r ∈ lr) (h3 : (sh s).resOk lv' lr' ∧ (sh s).res lv' lr' = sh' s') : Shp lv' lr' sh' s' τ := by
  obtain ⟨_, he⟩ := h
  have look_map : ∀ {α : Type} (g : Nat → α) (k : Nat) (l : List Nat), k ∈ l → look k (l.map fun j => (j, g j)) = some (g k) := by
    intro α g k l hk
    rw [look_keys, if_pos hk]
  have hg : ∀ k ∈ lv, (sh s).get k = τ.get k := by
    intro k hk
    rw [← he]
    simp only [St.get, St.res, look_map _ k lv hk, Option.getD_some]
  have hr : ∀ r ∈ lr, ((sh s).row r).getD .dead = (τ.row r).getD .dead := by
    intro r hk
    rw [← he]
    simp only [St.row, St.res, look_map _ r lr hk, Option.getD_some]
  obtain ⟨⟨a, b, c⟩, d⟩ := h3
  refine ⟨⟨fun k hk r hr' => a k hk r (by rw [hg k (h1 k hk)]; exact hr'), fun q hq r hr' => b q hq r (by rw [hr q (h2 q hq)]; exact hr'), c⟩, ?_⟩
  rw [← d]
  simp only [St.res, St.mk.injEq]
  exact ⟨List.map_congr_left fun k hk => by rw [hg k (h1 k hk)], List.map_congr_left fun r hk => by rw [hr r (h2 r hk)]⟩
theorem tail_rule {S B : Type} {lv lr : List Nat} {sh : S → St} {q : B → Ex → St → Prop} {a : ACode} {Q : Ex → St → Prop} {σ : St} {o : S ⊕ B}
    (ha : AWP ok a (qJ lv lr sh q o) σ) (hn : ∀ s, o = .inl s → ∀ τ, Shp lv lr sh s τ → Q .nrm τ) (hx : ∀ x, o = .inr x → ∀ e τ, e ≠ .nrm → q x e τ → Q e τ) : AWP ok a Q σ := by
  refine awp_mono a ha fun e τ h => ?_
  cases o with
  | inl s => obtain ⟨rfl, h⟩ := h; exact hn s rfl τ h
  | inr x => exact hx x rfl e τ h.1 h.2
theorem tail_rule0 {S : Type} {lv lr : List Nat} {sh : S → St} {a : ACode} {Q : Ex → St → Prop} {σ : St} {s : S}
    (ha : AWP ok a (qJ0 lv lr sh s) σ) (hn : ∀ τ, Shp lv lr sh s τ → Q .nrm τ) : AWP ok a Q σ := by
  refine awp_mono a ha fun e τ h => ?_
  obtain ⟨rfl, h⟩ := h; exact hn τ h
def nodupB : List Nat → Bool
  | [] => true
  | x :: xs => !(xs.any fun y => Nat.beq x y) && nodupB xs
def nmOk (rs ns : List Nat) : Bool := nodupB (ns.map fun q => rs.getD (q - 1000000000) 0) && ns.all fun q => Nat.ble 1000000000 q && Nat.blt (q - 1000000000) rs.length
theorem nodupB_spec : ∀ {l : List Nat}, nodupB l = true → l.Nodup
  | [], _ => List.nodup_nil
  | x :: xs, h => by
    simp only [nodupB, Bool.and_eq_true, Bool.not_eq_true', List.any_eq_false, Nat.beq_eq] at h
    exact List.nodup_cons.2 ⟨fun hx => h.1 x hx rfl, nodupB_spec h.2⟩
theorem nm_ok {ρ : Nat → Option Row} {d : Nat} {rs : List Nat} {outs : List (Nat × Row)} (ns : List Nat) (hn : outs.map (·.1) = ns) (h : nmOk rs ns = true) :
    (outs.map fun p => bkn d rs p.1).Nodup ∧ (∀ p ∈ outs, 1000000000 ≤ p.1 → p.1 - 1000000000 < rs.length) ∧ (∀ p ∈ outs, p.1 < 1000000000 → ρ (bkn d rs p.1) = none ∧ bkn d rs p.1 < 1000000000) := by
  subst hn
  unfold nmOk at h
  simp only [Bool.and_eq_true, List.all_eq_true, List.mem_map, forall_exists_index, and_imp, List.map_map] at h
  obtain ⟨h1, h2⟩ := h
  have hb : ∀ p ∈ outs, 1000000000 ≤ p.1 ∧ p.1 - 1000000000 < rs.length := fun p hp => by
    have := h2 p.1 p hp rfl
    exact ⟨Nat.le_of_ble_eq_true this.1, Nat.le_of_ble_eq_true this.2⟩
  refine ⟨?_, fun p hp _ => (hb p hp).2, fun p hp hlt => absurd (hb p hp).1 (by omega)⟩
  have e : (outs.map fun p => bkn d rs p.1) = outs.map ((fun q => rs.getD (q - 1000000000) 0) ∘ fun x => x.1) := List.map_congr_left fun p hp => by
    simp only [bkn, if_pos (hb p hp).1, Function.comp]
  rw [e]
  exact nodupB_spec h1
theorem tail_blk0 {S : Type} {id : Nat} {lv lr : List Nat} {sh : S → St} {a : ACode} {Q : Ex → St → Prop} {σ : St} {s : S} (ha : AWP ok a (qX id lv lr sh s) σ) (hn : ∀ τ, Shp lv lr sh s τ → Q .nrm τ) : AWP ok a (inb id Q) σ := by
  have := tail_rule0 (blk_rule0 ha) hn
  simpa only [AWP] using this
theorem tail_blk {S B : Type} {id : Nat} {lv lr : List Nat} {sh : S → St} {q : B → Ex → St → Prop} {a : ACode} {Q : Ex → St → Prop} {σ : St} {o : S ⊕ B} (hq : ∀ b e τ, q b e τ → e ≠ .nrm ∧ e ≠ .ex id)
    (ha : AWP ok a (qS (qX id lv lr sh) q o) σ) (hn : ∀ s, o = .inl s → ∀ τ, Shp lv lr sh s τ → Q .nrm τ) (hx : ∀ x, o = .inr x → ∀ e τ, e ≠ .nrm → q x e τ → Q e τ) : AWP ok a (inb id Q) σ := by
  have := tail_rule (blk_rule hq ha) hn hx
  simpa only [AWP] using this
/-- a loop ends a function that gives nothing back -/
theorem finM_shp {S : Type} {lv lr lr' : List Nat} {sh : S → St} {s : S} {τ : St} {res : AV} {outs : List (Nat × Row)} (h : Shp lv lr sh s τ) (h2 : ∀ r ∈ lr', r ∈ lr)
    (h3 : (sh s).resOk [] lr' ∧ ((sh s).res [] lr').rows = outs) (h5 : res = .tup []) : finM [] lr' res outs .nrm τ := by
  have := Shp.sub (sh' := fun (_ : Unit) => (sh s).res [] lr') (s' := ()) h (by simp) h2 ⟨h3.1, rfl⟩
  subst h5
  refine ⟨[], rfl, rfl, this.1, by simp [AV.ments, mentsL], ?_⟩
  rw [this.2]; exact h3.2
theorem fin_tup {τ : St} {res : AV} (h5 : res = .tup []) : fin [] res .nrm τ := by
  subst h5
  exact ⟨[], rfl, by simp [mentsL], by simp [tupd, lift]⟩
theorem sideR {R : Type} {V : List RV} {emb : R → AV} {id : Nat} (b : R) (e : Ex) (τ : St) (h : qR V emb b e τ) : e ≠ .nrm ∧ e ≠ .ex id := by
  obtain ⟨rfl, _⟩ := h; simp
theorem sideM {R : Type} {V : List RV} {lr : List Nat} {emb : R → AV} {out : R → List (Nat × Row)} {id : Nat} (b : R) (e : Ex) (τ : St) (h : qM V lr emb out b e τ) : e ≠ .nrm ∧ e ≠ .ex id := by
  obtain ⟨rfl, _⟩ := h; simp
theorem sideX {S : Type} {lv lr : List Nat} {sh : S → St} {id id' : Nat} (hn : id' ≠ id) (b : S) (e : Ex) (τ : St) (h : qX id' lv lr sh b e τ) : e ≠ .nrm ∧ e ≠ .ex id := by
  obtain ⟨rfl, _⟩ := h; simp [hn]
theorem sideS {A B : Type} {q : A → Ex → St → Prop} {q' : B → Ex → St → Prop} {id : Nat} (h1 : ∀ b e τ, q b e τ → e ≠ .nrm ∧ e ≠ .ex id) (h2 : ∀ b e τ, q' b e τ → e ≠ .nrm ∧ e ≠ .ex id)
    (b : A ⊕ B) (e : Ex) (τ : St) (h : qS q q' b e τ) : e ≠ .nrm ∧ e ≠ .ex id := by
  cases b with
  | inl a => exact h1 a e τ h
  | inr a => exact h2 a e τ h
/-- a function value's captured values, as a callee sees them -/
def Fixed (C : List AV) : Prop := (∀ ρ k, C.map (snp ρ (k + 1)) = C) ∧ mentsL C = []
end
end Vs

/- Laws on models: loops, integers. -/
namespace Vs
open Go

theorem w64_eq {n : Int} (h1 : -9223372036854775808 ≤ n) (h2 : n ≤ 9223372036854775807) : IntKind.wrap .i64 n = n := by
  rw [IntKind.wrap_i64]; omega

theorem N0_lt {n : Nat} (h : n < 18446744073709551616) : n < N0 := by unfold N0; omega

theorem iter_inv {S B : Type} {f : S → Option (S ⊕ B)} (I : S → Prop) (μ : S → Nat) (Q : B → Prop)
    (hs : ∀ s, I s → (∃ s', f s = some (.inl s') ∧ I s' ∧ μ s' < μ s) ∨ ∃ b, f s = some (.inr b) ∧ Q b) : ∀ (n : Nat) (s : S), I s → μ s < n → ∃ b, iter f n s = some b ∧ Q b
  | 0, _, _, h => by omega
  | n + 1, s, hI, hn => by
    rcases hs s hI with ⟨s', h1, h2, h3⟩ | ⟨b, h1, h2⟩
    · obtain ⟨b, hb, hq⟩ := iter_inv I μ Q hs n s' h2 (by omega)
      exact ⟨b, by simp [iter, h1, hb], hq⟩
    · exact ⟨b, by simp [iter, h1], h2⟩

/-- what a loop over a list gives -/
def walkL {α A B : Type} (step : Nat → α → A → A ⊕ B) (fin : A → B) : Nat → List α → A → B
  | _, [], a => fin a
  | i, x :: xs, a => match step i x a with
    | .inl a' => walkL step fin (i + 1) xs a'
    | .inr b => b

theorem iter_list {α A S B : Type} {f : S → Option (S ⊕ B)} (xs : List α) (st : Nat → A → S) (step : Nat → α → A → A ⊕ B) (fin : A → B) (I : Nat → A → Prop)
    (h1 : ∀ i a x, xs[i]? = some x → I i a → (∃ a', step i x a = .inl a' ∧ I (i + 1) a' ∧ f (st i a) = some (.inl (st (i + 1) a'))) ∨ ∃ b, step i x a = .inr b ∧ f (st i a) = some (.inr b))
    (h2 : ∀ a, I xs.length a → f (st xs.length a) = some (.inr (fin a))) (a0 : A) (h0 : I 0 a0) (hl : xs.length < 18446744073709551615) :
    iter f N0 (st 0 a0) = some (walkL step fin 0 xs a0) := by
  have key : ∀ (ys : List α) (i : Nat) (a : A) (n : Nat), xs.drop i = ys → i ≤ xs.length → I i a → ys.length < n → iter f n (st i a) = some (walkL step fin i ys a) := by
    intro ys
    induction ys with
    | nil =>
      intro i a n hd hi hI hn
      have : i = xs.length := by
        have := congrArg List.length hd
        simp at this; omega
      subst this
      cases n with
      | zero => simp at hn
      | succ n => simp [iter, h2 a hI, walkL]
    | cons y ys ih =>
      intro i a n hd hi hI hn
      have hx : xs[i]? = some y := by
        have := congrArg (·[0]?) hd
        simpa using this
      have hlt : i < xs.length := (List.getElem?_eq_some_iff.1 hx).1
      have hd' : xs.drop (i + 1) = ys := by
        have := congrArg (List.drop 1) hd
        simpa [List.drop_drop, Nat.add_comm] using this
      cases n with
      | zero => simp at hn
      | succ n =>
        simp only [List.length_cons] at hn
        rcases h1 i a y hx hI with ⟨a', e1, e2, e3⟩ | ⟨b, e1, e2⟩
        · simp only [iter, e3, walkL, e1]
          exact ih (i + 1) a' n hd' (by omega) e2 (by omega)
        · simp only [iter, e2, walkL, e1]
  exact key xs 0 a0 N0 (by simp) (by omega) h0 (N0_lt (by omega))

/-- a loop that looks for the first that is so -/
theorem walkL_any {α B : Type} (p : α → Bool) (bad ok : B) : ∀ (xs : List α) (i : Nat), walkL (fun _ x (_ : Unit) => if p x then .inr bad else .inl ()) (fun _ => ok) i xs () = if xs.any p then bad else ok
  | [], i => rfl
  | x :: xs, i => by
    simp only [walkL, List.any_cons]
    by_cases h : p x = true
    · simp [h]
    · simp only [Bool.not_eq_true] at h; simp [h, walkL_any p bad ok xs (i + 1)]

theorem geti_nat {α : Type} (xs : List α) (i : Nat) : geti xs (i : Int) = xs[i]? := by simp [geti]
theorem iter_any {α B : Type} {f : Int → Option (Int ⊕ B)} (xs : List α) (p : α → Bool) (bad ok : B) (h1 : ∀ (i : Nat) x, xs[i]? = some x → f i = some (if p x then .inr bad else .inl ((i + 1 : Nat) : Int)))
    (h2 : f xs.length = some (.inr ok)) (hl : xs.length < 18446744073709551615) : iter f N0 0 = some (if xs.any p then bad else ok) := by
  have := iter_list (f := f) xs (fun i (_ : Unit) => (i : Int)) (fun _ x _ => if p x then .inr bad else .inl ()) (fun _ => ok) (fun _ _ => True)
    (fun i a x hx _ => by
      cases h : p x
      · exact .inl ⟨(), by simp, trivial, by rw [h1 i x hx, h]; simp⟩
      · exact .inr ⟨bad, by simp, by rw [h1 i x hx, h]; simp⟩) (fun a _ => h2) () trivial hl
  rw [walkL_any] at this
  exact this
/-- a copy, element by element -/
theorem iter_copy {α β : Type} {f : Int × List β → Option ((Int × List β) ⊕ List β)} (xs : List α) (c : α → β) (l0 : List β) (hl0 : l0.length = xs.length)
    (h1 : ∀ (i : Nat) (l : List β) x y, xs[i]? = some x → l[i]? = some y → l.length = xs.length → f (i, l) = some (.inl (((i + 1 : Nat) : Int), l.set i (c x))))
    (h2 : ∀ l, f (xs.length, l) = some (.inr l)) (hl : xs.length < 18446744073709551615) : iter f N0 (0, l0) = some (xs.map c) := by
  have key : ∀ (ys : List α) (i : Nat) (l : List β) (n : Nat), xs.drop i = ys → i ≤ xs.length → l.length = xs.length → l.take i = (xs.take i).map c → ys.length < n → iter f n ((i : Int), l) = some (xs.map c) := by
    intro ys
    induction ys with
    | nil =>
      intro i l n hd hi hll hI hn
      have : i = xs.length := by
        have := congrArg List.length hd
        simp at this; omega
      subst this
      rw [List.take_of_length_le (by omega), List.take_of_length_le (by omega)] at hI
      cases n with
      | zero => simp at hn
      | succ n => simp [iter, h2, hI]
    | cons y ys ih =>
      intro i l n hd hi hll hI hn
      have hx : xs[i]? = some y := by
        have := congrArg (·[0]?) hd
        simpa using this
      have hlt : i < xs.length := (List.getElem?_eq_some_iff.1 hx).1
      have hd' : xs.drop (i + 1) = ys := by
        have := congrArg (List.drop 1) hd
        simpa [List.drop_drop, Nat.add_comm] using this
      cases n with
      | zero => simp at hn
      | succ n =>
        simp only [List.length_cons] at hn
        simp only [iter, h1 i l y l[i] hx (List.getElem?_eq_getElem (by omega)) hll]
        refine ih (i + 1) _ n hd' (by omega) (by simpa using hll) ?_ (by omega)
        have e1 : xs.take (i + 1) = xs.take i ++ [y] := by
          rw [List.take_add_one, hx]; rfl
        rw [e1, List.map_append, ← hI, List.take_add_one, List.take_set_of_le (by omega), List.getElem?_set_self (by omega)]
        rfl
  exact key xs 0 l0 N0 (by simp) (by omega) hl0 (by simp) (N0_lt (by omega))
/-- a comparison, element by element -/
theorem iter_eq {α β : Type} {f : Int → Option (Int ⊕ (Unit ⊕ Bool))} (xs : List α) (ys : List β) (e : α → β → Bool) (hxy : xs.length = ys.length)
    (h1 : ∀ (i : Nat) x y, xs[i]? = some x → ys[i]? = some y → f i = some (if e x y then .inl ((i + 1 : Nat) : Int) else .inr (.inr false)))
    (h2 : f xs.length = some (.inr (.inl ()))) (hl : xs.length < 18446744073709551615) : iter f N0 0 = some (if (xs.zip ys).all fun p => e p.1 p.2 then .inl () else .inr false) := by
  have hz : (xs.zip ys).length = xs.length := by simp [hxy]
  have := iter_any (f := f) (xs.zip ys) (fun p => !e p.1 p.2) (.inr false) (.inl ()) (fun i p hp => by
    rw [List.getElem?_zip_eq_some] at hp
    rw [h1 i p.1 p.2 hp.1 hp.2]
    cases e p.1 p.2 <;> simp) (by rw [hz]; exact h2) (by omega)
  rw [this]
  have e1 : ((xs.zip ys).any fun p => !e p.1 p.2) = !(xs.zip ys).all fun p => e p.1 p.2 := by rw [List.not_all_eq_any_not]
  rw [e1]
  cases (xs.zip ys).all fun p => e p.1 p.2 <;> rfl
theorem zip_all_eq {α : Type} [DecidableEq α] : ∀ (xs ys : List α), xs.length = ys.length → ((xs.zip ys).all fun p => decide (p.1 = p.2)) = decide (xs = ys)
  | [], [], _ => rfl
  | x :: xs, y :: ys, h => by
    simp only [List.length_cons, Nat.add_right_cancel_iff] at h
    simp only [List.zip_cons_cons, List.all_cons, zip_all_eq xs ys h, List.cons.injEq]
    by_cases h1 : x = y <;> by_cases h2 : xs = ys <;> simp [h1, h2]
  | [], _ :: _, h => by simp at h
  | _ :: _, [], h => by simp at h
theorem chk_nat {i n : Nat} (h : i < n) : chk (i : Int) n = some i := by simp [chk, h]
theorem grd_t {p : Prop} [Decidable p] (h : p) : grd p = some () := by simp [grd, h]
theorem cond_ite {α : Type} (c : Bool) (a b : α) : cond c a b = if c = true then a else b := by cases c <;> rfl
/-- the index of the first that is so -/
theorem iter_index {α : Type} {f : Int → Option (Int ⊕ (Unit ⊕ Int))} (xs : List α) (p : α → Bool) (h1 : ∀ (i : Nat) x, xs[i]? = some x → f i = some (if p x then .inr (.inr (i : Int)) else .inl ((i + 1 : Nat) : Int)))
    (h2 : f xs.length = some (.inr (.inl ()))) (hl : xs.length < 18446744073709551615) : ∃ b, iter f N0 0 = some b ∧ (b = .inl () ∧ xs.any p = false ∨ ∃ k : Nat, b = .inr (k : Int) ∧ xs.any p = true) := by
  have key := iter_list (f := f) xs (fun i (_ : Unit) => (i : Int)) (fun i x _ => if p x then .inr (.inr (i : Int)) else .inl ()) (fun _ => .inl ()) (fun _ _ => True)
    (fun i a x hx _ => by
      cases h : p x
      · exact .inl ⟨(), by simp, trivial, by rw [h1 i x hx, h]; simp⟩
      · exact .inr ⟨.inr (i : Int), by simp, by rw [h1 i x hx, h]; simp⟩) (fun a _ => h2) () trivial hl
  refine ⟨_, key, ?_⟩
  have gen : ∀ (ys : List α) (i : Nat), walkL (fun i x (_ : Unit) => if p x then Sum.inr (Sum.inr (i : Int)) else .inl ()) (fun _ => (Sum.inl () : Unit ⊕ Int)) i ys () = .inl () ∧ ys.any p = false ∨
      ∃ k : Nat, walkL (fun i x (_ : Unit) => if p x then Sum.inr (Sum.inr (i : Int)) else .inl ()) (fun _ => (Sum.inl () : Unit ⊕ Int)) i ys () = .inr (k : Int) ∧ ys.any p = true := by
    intro ys
    induction ys with
    | nil => intro i; left; simp [walkL]
    | cons y ys ih =>
      intro i
      by_cases h : p y = true
      · right; exact ⟨i, by simp [walkL, h], by simp [h]⟩
      · simp only [Bool.not_eq_true] at h
        simp only [walkL, h, List.any_cons, Bool.false_or]
        exact ih (i + 1)
  exact gen xs 0
/-- a loop that only folds -/
theorem walkL_fold {α A B : Type} (g : Nat → α → A → A) (fin : A → B) : ∀ (xs : List α) (i : Nat) (a : A), walkL (fun i x a => .inl (g i x a)) fin i xs a = fin ((xs.zipIdx i).foldl (fun a p => g p.2 p.1 a) a)
  | [], i, a => rfl
  | x :: xs, i, a => by simp [walkL, walkL_fold g fin xs (i + 1)]
end Vs

