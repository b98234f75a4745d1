/-
  Part of the proof that the law FnGrooming returns true at every input; no condition beside the row's own.
-/
import Derived.Test.YtgbifbhfdjdhbaaAa
set_option linter.defProp false
set_option linter.unusedSimpArgs false
set_option linter.unusedVariables false
set_option maxHeartbeats 1000000
set_option maxRecDepth 8000
namespace Vs
open Go Go.Proofs
attribute [local irreducible] AWP stOps eff awpC callA callM
theorem VT1 : (∀ (f : Fl) (x : TLink), e_TLink f x = .agg [.i x.A, .i x.B, .i x.Capacity]) ∧
  (∀ (f : Fl) (x : TTributary), e_TTributary f x = .agg [.i x.From, .i x.To, .i x.Rate]) ∧
  (∀ (f : Fl) (x : Tl1Cur), e_Tl1Cur f x = .agg [.lst f 1 (x.code.map AV.u8), .i x.atF, .sc (.int .u64 x.seed)]) ∧
  (∀ (f : Fl) (x : List Int), e_Li f x = .lst f 1 (x.map AV.i)) ∧
  (∀ (f : Fl) (x : TFiber), e_TFiber f x = .agg [.i x.A, .i x.B, .i x.Length, .i x.Risk]) := ⟨fun _ _ => rfl, fun _ _ => rfl, fun _ _ => rfl, fun _ _ => rfl, fun _ _ => rfl⟩
theorem VT2 : (∀ (f : Fl) (x : TLink), (e_TLink f x).nrm = e_TLink .o x) ∧
  (∀ (f : Fl) (xs : List TLink), (xs.map (e_TLink f)).map AV.nrm = xs.map (e_TLink .o)) ∧
  (∀ (f : Fl) (x : TLink), (e_TLink f x).als = e_TLink f.als x) ∧
  (∀ (f : Fl) (xs : List TLink), (xs.map (e_TLink f)).map AV.als = xs.map (e_TLink f.als)) ∧
  (∀ (f : Fl) (x : TLink), (e_TLink f x).fix = e_TLink f.fix x) ∧
  (∀ (f : Fl) (xs : List TLink), (xs.map (e_TLink f)).map AV.fix = xs.map (e_TLink f.fix)) ∧
  (∀ (f : Fl) (x : TTributary), (e_TTributary f x).nrm = e_TTributary .o x) ∧
  (∀ (f : Fl) (xs : List TTributary), (xs.map (e_TTributary f)).map AV.nrm = xs.map (e_TTributary .o)) ∧
  (∀ (f : Fl) (x : TTributary), (e_TTributary f x).als = e_TTributary f.als x) ∧
  (∀ (f : Fl) (xs : List TTributary), (xs.map (e_TTributary f)).map AV.als = xs.map (e_TTributary f.als)) ∧
  (∀ (f : Fl) (x : TTributary), (e_TTributary f x).fix = e_TTributary f.fix x) ∧
  (∀ (f : Fl) (xs : List TTributary), (xs.map (e_TTributary f)).map AV.fix = xs.map (e_TTributary f.fix)) ∧
  (∀ (f : Fl) (x : Tl1Cur), (e_Tl1Cur f x).nrm = e_Tl1Cur .o x) ∧
  (∀ (f : Fl) (xs : List Tl1Cur), (xs.map (e_Tl1Cur f)).map AV.nrm = xs.map (e_Tl1Cur .o)) ∧
  (∀ (f : Fl) (x : Tl1Cur), (e_Tl1Cur f x).als = e_Tl1Cur f.als x) ∧
  (∀ (f : Fl) (xs : List Tl1Cur), (xs.map (e_Tl1Cur f)).map AV.als = xs.map (e_Tl1Cur f.als)) ∧
  (∀ (f : Fl) (x : Tl1Cur), (e_Tl1Cur f x).fix = e_Tl1Cur f.fix x) ∧
  (∀ (f : Fl) (xs : List Tl1Cur), (xs.map (e_Tl1Cur f)).map AV.fix = xs.map (e_Tl1Cur f.fix)) ∧
  (∀ (f : Fl) (x : List Int), (e_Li f x).nrm = e_Li .o x) ∧
  (∀ (f : Fl) (xs : List (List Int)), (xs.map (e_Li f)).map AV.nrm = xs.map (e_Li .o)) ∧
  (∀ (f : Fl) (x : List Int), (e_Li f x).als = e_Li f.als x) ∧
  (∀ (f : Fl) (xs : List (List Int)), (xs.map (e_Li f)).map AV.als = xs.map (e_Li f.als)) ∧
  (∀ (f : Fl) (x : List Int), (e_Li f x).fix = e_Li f.fix x) ∧
  (∀ (f : Fl) (xs : List (List Int)), (xs.map (e_Li f)).map AV.fix = xs.map (e_Li f.fix)) ∧
  (∀ (f : Fl) (x : TFiber), (e_TFiber f x).nrm = e_TFiber .o x) ∧
  (∀ (f : Fl) (xs : List TFiber), (xs.map (e_TFiber f)).map AV.nrm = xs.map (e_TFiber .o)) ∧
  (∀ (f : Fl) (x : TFiber), (e_TFiber f x).als = e_TFiber f.als x) ∧
  (∀ (f : Fl) (xs : List TFiber), (xs.map (e_TFiber f)).map AV.als = xs.map (e_TFiber f.als)) ∧
  (∀ (f : Fl) (x : TFiber), (e_TFiber f x).fix = e_TFiber f.fix x) ∧
  (∀ (f : Fl) (xs : List TFiber), (xs.map (e_TFiber f)).map AV.fix = xs.map (e_TFiber f.fix)) :=
  ⟨@e_TLink_nrm, @e_TLink_nrmm, @e_TLink_als, @e_TLink_alsm, @e_TLink_fix, @e_TLink_fixm, @e_TTributary_nrm, @e_TTributary_nrmm, @e_TTributary_als, @e_TTributary_alsm, @e_TTributary_fix, @e_TTributary_fixm, @e_Tl1Cur_nrm, @e_Tl1Cur_nrmm, @e_Tl1Cur_als, @e_Tl1Cur_alsm, @e_Tl1Cur_fix, @e_Tl1Cur_fixm, @e_Li_nrm, @e_Li_nrmm, @e_Li_als, @e_Li_alsm, @e_Li_fix, @e_Li_fixm, @e_TFiber_nrm, @e_TFiber_nrmm, @e_TFiber_als, @e_TFiber_alsm, @e_TFiber_fix, @e_TFiber_fixm⟩
theorem VF1 : (∀ (f : Fl) (x : TLink), (e_TLink f x).fix = e_TLink f.fix x) ∧
  (∀ (f : Fl) (xs : List TLink), (xs.map (e_TLink f)).map AV.fix = xs.map (e_TLink f.fix)) ∧
  (∀ (f : Fl) (x : TTributary), (e_TTributary f x).fix = e_TTributary f.fix x) ∧
  (∀ (f : Fl) (xs : List TTributary), (xs.map (e_TTributary f)).map AV.fix = xs.map (e_TTributary f.fix)) ∧
  (∀ (f : Fl) (x : Tl1Cur), (e_Tl1Cur f x).fix = e_Tl1Cur f.fix x) ∧
  (∀ (f : Fl) (xs : List Tl1Cur), (xs.map (e_Tl1Cur f)).map AV.fix = xs.map (e_Tl1Cur f.fix)) ∧
  (∀ (f : Fl) (x : List Int), (e_Li f x).fix = e_Li f.fix x) ∧
  (∀ (f : Fl) (xs : List (List Int)), (xs.map (e_Li f)).map AV.fix = xs.map (e_Li f.fix)) ∧
  (∀ (f : Fl) (x : TFiber), (e_TFiber f x).fix = e_TFiber f.fix x) ∧
  (∀ (f : Fl) (xs : List TFiber), (xs.map (e_TFiber f)).map AV.fix = xs.map (e_TFiber f.fix)) :=
  ⟨@e_TLink_fix, @e_TLink_fixm, @e_TTributary_fix, @e_TTributary_fixm, @e_Tl1Cur_fix, @e_Tl1Cur_fixm, @e_Li_fix, @e_Li_fixm, @e_TFiber_fix, @e_TFiber_fixm⟩
theorem VZ1 : (∀ (x : TLink), (e_TLink .o x).fz = true) ∧
  (∀ (xs : List TLink), fzL (xs.map (e_TLink .o)) = true) ∧
  (∀ (x : TLink), (e_TLink .u x).ouB = true) ∧
  (∀ (xs : List TLink), ouBL (xs.map (e_TLink .u)) = true) ∧
  (∀ (x : TTributary), (e_TTributary .o x).fz = true) ∧
  (∀ (xs : List TTributary), fzL (xs.map (e_TTributary .o)) = true) ∧
  (∀ (x : TTributary), (e_TTributary .u x).ouB = true) ∧
  (∀ (xs : List TTributary), ouBL (xs.map (e_TTributary .u)) = true) ∧
  (∀ (x : Tl1Cur), (e_Tl1Cur .o x).fz = true) ∧
  (∀ (xs : List Tl1Cur), fzL (xs.map (e_Tl1Cur .o)) = true) ∧
  (∀ (x : Tl1Cur), (e_Tl1Cur .u x).ouB = true) ∧
  (∀ (xs : List Tl1Cur), ouBL (xs.map (e_Tl1Cur .u)) = true) ∧
  (∀ (x : List Int), (e_Li .o x).fz = true) ∧
  (∀ (xs : List (List Int)), fzL (xs.map (e_Li .o)) = true) ∧
  (∀ (x : List Int), (e_Li .u x).ouB = true) ∧
  (∀ (xs : List (List Int)), ouBL (xs.map (e_Li .u)) = true) ∧
  (∀ (x : TFiber), (e_TFiber .o x).fz = true) ∧
  (∀ (xs : List TFiber), fzL (xs.map (e_TFiber .o)) = true) ∧
  (∀ (x : TFiber), (e_TFiber .u x).ouB = true) ∧
  (∀ (xs : List TFiber), ouBL (xs.map (e_TFiber .u)) = true) :=
  ⟨@e_TLink_fz, @e_TLink_fzm, @e_TLink_ou, @e_TLink_oum, @e_TTributary_fz, @e_TTributary_fzm, @e_TTributary_ou, @e_TTributary_oum, @e_Tl1Cur_fz, @e_Tl1Cur_fzm, @e_Tl1Cur_ou, @e_Tl1Cur_oum, @e_Li_fz, @e_Li_fzm, @e_Li_ou, @e_Li_oum, @e_TFiber_fz, @e_TFiber_fzm, @e_TFiber_ou, @e_TFiber_oum⟩
theorem Zr {α : Type} (n : Nat) (a : α) : (List.replicate n a).length = n := List.length_replicate
theorem ZA {A B : Prop} (a : A) (b : B) : A ∧ B := ⟨a, b⟩
theorem ZF {A : Prop} (a : A) {P Q : Prop} (k : Q) (e : A → P = Q := by intro a; simp only [VS1, VS2, VS3, VS4, VS5, VS6, VT1, VT2, finM_ret, finM_nrm, decide_true, decide_false, List.nodup_nil, List.nodup_cons, oks_p, oks_m, oks_h, ne_eq, not_false_eq_true, Int.reduceEq, Int.reduceNe, true_and, Nat.reduceSub, Nat.reduceMul, ↓reduceIte, reduceCtorEq, Nat.reduceEqDiff, Nat.reduceAdd, Nat.reduceLeDiff, Int.reduceLE, a]; exact Eq.refl _) : P := (e a).mpr k
theorem ZG {P Q : Prop} (k : Q) (e : P = Q := by simp only [VA, VF1, ↓reduceIte, Nat.reduceEqDiff, Nat.reduceAdd, Nat.reduceMul, Nat.reduceSub, Nat.reduceLeDiff]; exact Eq.refl _) : P := e.mpr k
theorem ZL {A : Prop} (a : A) {B : Prop} (b : B) {P : Prop} (e : A → B → P := by intro a b; (try simp only [VS1, VS2, VS3, VS4, VS5, VS6, VT1, VT2, finM_ret, finM_nrm, decide_true, decide_false, List.nodup_nil, List.nodup_cons, oks_p, oks_m, oks_h, ne_eq, not_false_eq_true, Int.reduceEq, Int.reduceNe, true_and, Nat.reduceSub, Nat.reduceMul, ↓reduceIte, reduceCtorEq, Nat.reduceEqDiff, Nat.reduceAdd, Nat.reduceLeDiff, Int.reduceLE, a]); all_goals simp [qL, qJ, qJ0, qS, qX, qR, qM, Shp, sub, tupd, finM_ret, finM_nrm, VS1, VS2, VS3, VS4, VS5, VS6, VT1, VT2, b]) : P := e a b
theorem ZK {B : Prop} (b : B) {P : Prop} (e : B → P := by intro b; simp [qL, qJ, qJ0, qS, qX, qR, qM, Shp, sub, tupd, finM_ret, finM_nrm, VS1, VS2, VS3, VS4, VS5, VS6, VT1, VT2, b]) : P := e b
theorem ZS {A : Prop} (a : A) {W : Prop} (w : W) {ok : Oks} {ρ : Nat → Option Row} {d f : Nat} {args : List AV} {K : AV → List (Nat × Row) → Prop} {v : Value} (hk : K (.sc v) [])
    (e : A → W → ok.p f (args.map (snp ρ 4)) (.sc v) := by intro a w; simp only [VS1, VS2, VS3, VS4, VS5, VS6, VT1, VT2, finM_ret, finM_nrm, decide_true, decide_false, List.nodup_nil, List.nodup_cons, oks_p, oks_m, oks_h, ne_eq, not_false_eq_true, Int.reduceEq, Int.reduceNe, true_and, Nat.reduceSub, Nat.reduceMul, ↓reduceIte, reduceCtorEq, Nat.reduceEqDiff, Nat.reduceAdd, Nat.reduceLeDiff, Int.reduceLE, a]; exact w) : callA ok ρ d f args K := call_s (e a w) hk
theorem ZU {A : Prop} (a : A) {W : Prop} (w : W) {ok : Oks} {ρ : Nat → Option Row} {d f : Nat} {args : List AV} {K : AV → List (Nat × Row) → Prop} {res : AV} (hk : K (adopt 4 d res).1 (adopt 4 d res).2.1)
    (e : A → W → ok.p f (args.map (snp ρ 4)) res := by intro a w; simp only [VS1, VS2, VS3, VS4, VS5, VS6, VT1, VT2, finM_ret, finM_nrm, decide_true, decide_false, List.nodup_nil, List.nodup_cons, oks_p, oks_m, oks_h, ne_eq, not_false_eq_true, Int.reduceEq, Int.reduceNe, true_and, Nat.reduceSub, Nat.reduceMul, ↓reduceIte, reduceCtorEq, Nat.reduceEqDiff, Nat.reduceAdd, Nat.reduceLeDiff, Int.reduceLE, a]; exact w) (hu : res.allU := by simp [AV.allU, allUL, allUL_iff, VT1, VT2]) (hn : ∀ p ∈ (adopt 4 d res).2.1, ρ p.1 = none ∧ p.1 < 1000000000 := by simp only [VS1, VS2, VS3, VS4, VS5, VS6, VT1, VT2, finM_ret, finM_nrm, decide_true, decide_false, List.nodup_nil, List.nodup_cons, oks_p, oks_m, oks_h, ne_eq, not_false_eq_true, Int.reduceEq, Int.reduceNe, true_and, Nat.reduceSub, Nat.reduceMul, ↓reduceIte, reduceCtorEq, Nat.reduceEqDiff, Nat.reduceAdd, Nat.reduceLeDiff, Int.reduceLE, Nat.reduceLT]) : callA ok ρ d f args K := call_u (e a w) hu hn hk
theorem ZQ {P : Prop} (e : P := by simp [VS1, VS2, VS3, VS4, VS5, VS6, VT1, VT2]) : P := e
theorem ZW {A : Prop} (a : A) {W : Prop} (w : W) {ok : Oks} {ρ : Nat → Option Row} {d f : Nat} {args : List AV} {rs : List Nat} {K : AV → List (Nat × Row) → Prop} {res : AV} {outs : List (Nat × Row)}
    (e : A → W → ok.m f (args.map (AV.rg (cnm rs))) (rs.map (rowIn ρ rs)) res outs := by intro a w; simp only [VS1, VS2, VS3, VS4, VS5, VS6, VT1, VT2, finM_ret, finM_nrm, decide_true, decide_false, List.nodup_nil, List.nodup_cons, oks_p, oks_m, oks_h, ne_eq, not_false_eq_true, Int.reduceEq, Int.reduceNe, true_and, Nat.reduceSub, Nat.reduceMul, ↓reduceIte, reduceCtorEq, Nat.reduceEqDiff, Nat.reduceAdd, Nat.reduceLeDiff, Int.reduceLE, a]; first | exact w | (simp only [VS1, VS2, VS3, VS4, VS5, VS6, VT1, VT2, finM_ret, finM_nrm, decide_true, decide_false, List.nodup_nil, List.nodup_cons, oks_p, oks_m, oks_h, ne_eq, not_false_eq_true, Int.reduceEq, Int.reduceNe, true_and, Nat.reduceSub, Nat.reduceMul, ↓reduceIte, reduceCtorEq, Nat.reduceEqDiff, Nat.reduceAdd, Nat.reduceLeDiff, Int.reduceLE, a] at w; exact w))
    (h1 : rs.Nodup ∧ (∀ r ∈ rs, isLive (ρ r)) ∧ (∀ r ∈ rs, ∀ q ∈ oments (ρ r), q ∈ rs) ∧ (∀ r ∈ mentsL args, r ∈ rs) := by simp [VS1, VS2, VS3, VS4, VS5, VS6, VT1, VT2])
    (h2 : (outs.map fun p => bkn d rs p.1).Nodup ∧ (∀ p ∈ outs, 1000000000 ≤ p.1 → p.1 - 1000000000 < rs.length) ∧ (∀ p ∈ outs, p.1 < 1000000000 → ρ (bkn d rs p.1) = none ∧ bkn d rs p.1 < 1000000000))
    (hk : K (res.rg (bkn d rs)) (gone rs ++ outs.map (rowBk d rs))) : callM ok ρ d f args rs K := call_m (e a w) h1 h2 hk
theorem w_laws_vBig (codeZ0 : List Int) {r : Bool} (h : M_laws_vBig codeZ0 = some r) : Ok Try.prog 43 [.lst .o 1 (codeZ0.map AV.u8)] ((fun r => .b r) r) := by
  refine ok_of_body hmix m43 rfl ?_
  unfold M_laws_vBig at h
  simp only [ZC, A43, V43, body_eq]
  cases h
  exact ZL trivial V43.eq_1
theorem w_spec_l1Cur_nextM1 (aaZ0 : Tl1Cur) {r : Int × Tl1Cur} (h : M_spec_l1Cur_nextM1 aaZ0 = some r) : OkM Try.prog 116 [.pt 1000000000 0 0] [(1000000000, .var (.agg [.lst .o 1 (((aaZ0).code).map AV.u8), .i ((aaZ0).atF), .sc (.int .u64 ((aaZ0).seed))]))] ((fun (r : Int × Tl1Cur) => .i r.1) r) ((fun (r : Int × Tl1Cur) => [(1000000000, .var (.agg [.lst .o 1 (((r.2).code).map AV.u8), .i ((r.2).atF), .sc (.int .u64 ((r.2).seed))]))]) r) := by
  refine okM_of_body (lr := [1000000000]) hmix m116M1 rfl rfl ?_
  unfold M_spec_l1Cur_nextM1 at h
  simp only [ZC, A116M1, V116M1]
  obtain ⟨oZ3, hoZ3, h⟩ := bind_s h
  try refine ZF trivial ?_
  refine join_rule0 (sh := (fun v => ⟨[(0, .pt 1000000000 0 0), (3, .i v)], [(1000000000, .var (.agg [.lst .o 1 (((aaZ0).code).map AV.u8), .i ((aaZ0).atF), .sc (.int .u64 ((aaZ0).seed))]))]⟩)) (s := oZ3) ?_ ?_
  · replace h := hoZ3
    obtain ⟨cZ1, h⟩ | ⟨cZ1, h⟩ := cond_s h
    · obtain ⟨yZ2, hyZ2, h⟩ := bind_s h
      obtain ⟨hyZ2a, hyZ2b⟩ := geti_s hyZ2
      cases h
      exact ZL (ZA cZ1 (ZA hyZ2a hyZ2b)) trivial
    · cases h
      exact ZL cZ1 trivial
  · simp only [ZC, A116M1R1]
    obtain ⟨cZ4, h⟩ | ⟨cZ4, h⟩ := cond_s h
    · cases h
      exact ZL cZ4 V116M1.eq_1
    · cases h
      exact ZL cZ4 V116M1.eq_1
theorem w_spec_l1Cur_pickM1 (aaZ0 : Int) (abZ0 : Tl1Cur) {r : Int × Tl1Cur} (h : M_spec_l1Cur_pickM1 aaZ0 abZ0 = some r) : OkM Try.prog 107 [.pt 1000000000 0 0, .i aaZ0] [(1000000000, .var (.agg [.lst .o 1 (((abZ0).code).map AV.u8), .i ((abZ0).atF), .sc (.int .u64 ((abZ0).seed))]))] ((fun (r : Int × Tl1Cur) => .i r.1) r) ((fun (r : Int × Tl1Cur) => [(1000000000, .var (.agg [.lst .o 1 (((r.2).code).map AV.u8), .i ((r.2).atF), .sc (.int .u64 ((r.2).seed))]))]) r) := by
  refine okM_of_body (lr := [1000000000]) hmix m107M1 rfl rfl ?_
  unfold M_spec_l1Cur_pickM1 at h
  simp only [ZC, A107M1, V107M1]
  obtain ⟨cZ1, h⟩ | ⟨cZ1, h⟩ := cond_s h
  · cases h
    exact ZL cZ1 V107M1.eq_1
  · obtain ⟨rZ2, hrZ2, h⟩ := bind_s h
    refine ZF cZ1 ?_
    refine ZW cZ1 (w_spec_l1Cur_nextM1 _ hrZ2) (h2 := by first | exact nm_ok [1000000000] rfl (by decide +kernel) | exact nm_ok2 [1000000000] [] rfl (by decide +kernel) ZQ | exact ZQ) (hk := ?_)
    refine ZG ?_
    obtain ⟨cZ3, h⟩ | ⟨cZ3, h⟩ := cond_s h
    · obtain ⟨rZ4, hrZ4, h⟩ := bind_s h
      refine ZF (ZA cZ1 cZ3) ?_
      refine ZW (ZA cZ1 cZ3) (w_spec_l1Cur_nextM1 _ hrZ4) (h2 := by first | exact nm_ok [1000000000] rfl (by decide +kernel) | exact nm_ok2 [1000000000] [] rfl (by decide +kernel) ZQ | exact ZQ) (hk := ?_)
      refine ZG ?_
      obtain ⟨uZ5, huZ5, h⟩ := bind_s h
      have huZ5g := grd_s huZ5
      cases h
      exact ZL (ZA cZ1 (ZA cZ3 huZ5g)) V107M1.eq_1
    · obtain ⟨uZ6, huZ6, h⟩ := bind_s h
      have huZ6g := grd_s huZ6
      cases h
      exact ZL (ZA cZ1 (ZA cZ3 huZ6g)) V107M1.eq_1
theorem w_spec_l1Cur_amongM1 (aaZ0 : Nat) (abZ0 : Nat) (acZ0 : Tl1Cur) (adZ0 : List Int) {r : Int × Tl1Cur × List Int} (h : M_spec_l1Cur_amongM1 aaZ0 abZ0 acZ0 adZ0 = some r) : OkM Try.prog 84 [.pt 1000000000 0 0, .sl 1000000001 aaZ0 abZ0] [(1000000000, .var (.agg [.lst .o 1 (((acZ0).code).map AV.u8), .i ((acZ0).atF), .sc (.int .u64 ((acZ0).seed))])), (1000000001, .arr 1 (adZ0.map AV.i))] ((fun (r : Int × Tl1Cur × List Int) => .i r.1) r) ((fun (r : Int × Tl1Cur × List Int) => [(1000000000, .var (.agg [.lst .o 1 (((r.2.1).code).map AV.u8), .i ((r.2.1).atF), .sc (.int .u64 ((r.2.1).seed))])), (1000000001, .arr 1 (r.2.2.map AV.i))]) r) := by
  refine okM_of_body (lr := [1000000000, 1000000001]) hmix m84M1 rfl rfl ?_
  unfold M_spec_l1Cur_amongM1 at h
  simp only [ZC, A84M1, V84M1]
  obtain ⟨rZ1, hrZ1, h⟩ := bind_s h
  refine ZF trivial ?_
  refine ZW trivial (w_spec_l1Cur_pickM1 _ _ hrZ1) (h2 := by first | exact nm_ok [1000000000] rfl (by decide +kernel) | exact nm_ok2 [1000000000] [] rfl (by decide +kernel) ZQ | exact ZQ) (hk := ?_)
  refine ZG ?_
  obtain ⟨kZ2, hkZ2, h⟩ := bind_s h
  obtain ⟨hkZ2a, hkZ2b⟩ := grd_s hkZ2
  obtain ⟨yZ3, hyZ3, h⟩ := bind_s h
  cases h
  exact ZL (ZA hkZ2a (ZA hkZ2b hyZ3)) V84M1.eq_1
theorem w_spec_l1Cur_nodes18M1 (aaZ0 : Tl1Cur) {r : Int × Tl1Cur} (h : M_spec_l1Cur_nodes18M1 aaZ0 = some r) : OkM Try.prog 81 [.pt 1000000000 0 0] [(1000000000, .var (.agg [.lst .o 1 (((aaZ0).code).map AV.u8), .i ((aaZ0).atF), .sc (.int .u64 ((aaZ0).seed))]))] ((fun (r : Int × Tl1Cur) => .i r.1) r) ((fun (r : Int × Tl1Cur) => [(1000000000, .var (.agg [.lst .o 1 (((r.2).code).map AV.u8), .i ((r.2).atF), .sc (.int .u64 ((r.2).seed))]))]) r) := by
  refine okM_of_body (lr := [1000000000]) hmix m81M1 rfl rfl ?_
  unfold M_spec_l1Cur_nodes18M1 at h
  simp only [ZC, A81M1, V81M1]
  obtain ⟨lZ1, hlZ1, h⟩ := bnd_s h
  have eZ2 : Row.arr 1 [(.i 2 : AV), (.i 3 : AV), (.i 4 : AV), (.i 5 : AV), (.i 6 : AV), (.i 8 : AV), (.i 1 : AV), (.i 9 : AV)] = Row.arr 1 (lZ1.map AV.i) := by rw [← hlZ1]; rfl
  have eZ3 : lZ1.length = 8 := by rw [← hlZ1]; rfl
  obtain ⟨rZ4, hrZ4, h⟩ := bind_s h
  refine ZF (ZA eZ2 eZ3) ?_
  refine ZW (ZA eZ2 eZ3) (w_spec_l1Cur_pickM1 _ _ hrZ4) (h2 := by first | exact nm_ok [1000000000] rfl (by decide +kernel) | exact nm_ok2 [1000000000] [] rfl (by decide +kernel) ZQ | exact ZQ) (hk := ?_)
  refine ZG ?_
  obtain ⟨uZ5, huZ5, h⟩ := bind_s h
  have huZ5g := grd_s huZ5
  obtain ⟨uZ6, huZ6, h⟩ := bind_s h
  obtain ⟨huZ6a, huZ6b, huZ6c, huZ6d⟩ := grd_s huZ6
  obtain ⟨rZ7, hrZ7, h⟩ := bind_s h
  refine ZF (ZA eZ2 (ZA eZ3 (ZA huZ5g (ZA huZ6a (ZA huZ6b (ZA huZ6c huZ6d)))))) ?_
  refine ZW (ZA eZ2 (ZA eZ3 (ZA huZ5g (ZA huZ6a (ZA huZ6b (ZA huZ6c huZ6d)))))) (w_spec_l1Cur_amongM1 _ _ _ _ hrZ7) (h2 := by first | exact nm_ok [1000000000, 1000000001] rfl (by decide +kernel) | exact nm_ok2 [1000000000, 1000000001] [] rfl (by decide +kernel) ZQ | exact ZQ) (hk := ?_)
  refine ZG ?_
  cases h
  exact ZL (ZA eZ2 (ZA eZ3 (ZA huZ5g (ZA huZ6a (ZA huZ6b (ZA huZ6c huZ6d)))))) (ZA V81M1.eq_1 hlZ1.symm)
theorem w_spec_l1Most (aZ0 : Int) (bZ0 : Int) {r : Int} (h : M_spec_l1Most aZ0 bZ0 = some r) : Ok Try.prog 88 [.i aZ0, .i bZ0] ((fun r => .i r) r) := by
  refine ok_of_body hmix m88 rfl ?_
  unfold M_spec_l1Most at h
  simp only [ZC, A88, V88, body_eq]
  obtain ⟨cZ1, h⟩ | ⟨cZ1, h⟩ := cond_s h
  · cases h
    exact ZL cZ1 V88.eq_1
  · cases h
    exact ZL cZ1 V88.eq_1
theorem w_spec_l1Cur_amongM2 (aaZ0 : Tl1Cur) (abZ0 : List Int) {r : Int × Tl1Cur × List Int} (h : M_spec_l1Cur_amongM2 aaZ0 abZ0 = some r) : OkM Try.prog 84 [.pt 1000000000 0 0, .sl 1000000001 0 abZ0.length] [(1000000000, .var (.agg [.lst .o 1 (((aaZ0).code).map AV.u8), .i ((aaZ0).atF), .sc (.int .u64 ((aaZ0).seed))])), (1000000001, .arr 1 (abZ0.map AV.i))] ((fun (r : Int × Tl1Cur × List Int) => .i r.1) r) ((fun (r : Int × Tl1Cur × List Int) => [(1000000000, .var (.agg [.lst .o 1 (((r.2.1).code).map AV.u8), .i ((r.2.1).atF), .sc (.int .u64 ((r.2.1).seed))])), (1000000001, .arr 1 (r.2.2.map AV.i))]) r) := by
  refine okM_of_body (lr := [1000000000, 1000000001]) hmix m84M2 rfl rfl ?_
  unfold M_spec_l1Cur_amongM2 at h
  simp only [ZC, A84M2, V84M2]
  obtain ⟨rZ1, hrZ1, h⟩ := bind_s h
  refine ZF trivial ?_
  refine ZW trivial (w_spec_l1Cur_pickM1 _ _ hrZ1) (h2 := by first | exact nm_ok [1000000000] rfl (by decide +kernel) | exact nm_ok2 [1000000000] [] rfl (by decide +kernel) ZQ | exact ZQ) (hk := ?_)
  refine ZG ?_
  obtain ⟨kZ2, hkZ2, h⟩ := bind_s h
  obtain ⟨hkZ2a, hkZ2b⟩ := grd_s hkZ2
  obtain ⟨yZ3, hyZ3, h⟩ := bind_s h
  cases h
  exact ZL (ZA hkZ2a (ZA hkZ2b hyZ3)) V84M2.eq_1
def S_spec_l1Cur_linksM1L1 (rZ1 : Int) (v : Int × List TLink × Tl1Cur) : St := ⟨[(0, .pt 1000000000 0 0), (5, .sl 5 0 v.2.1.length), (6, .i rZ1), (7, .i v.1)], [(5, .arr 3 (v.2.1.map (e_TLink .u))), (1000000000, .var (.agg [.lst .o 1 (((v.2.2).code).map AV.u8), .i ((v.2.2).atF), .sc (.int .u64 ((v.2.2).seed))]))]⟩
def SX_spec_l1Cur_linksM1L1 (v : List TLink × Tl1Cur) : St := ⟨[(0, .pt 1000000000 0 0), (5, .sl 5 0 v.1.length)], [(5, .arr 3 (v.1.map (e_TLink .u))), (1000000000, .var (.agg [.lst .o 1 (((v.2).code).map AV.u8), .i ((v.2).atF), .sc (.int .u64 ((v.2).seed))]))]⟩
theorem w_spec_l1Cur_linksM1L1 (rZ1 : Int) (sZ3 : Int × List TLink × Tl1Cur) (o : (Int × List TLink × Tl1Cur) ⊕ (List TLink × Tl1Cur)) (h : M_spec_l1Cur_linksM1L1 rZ1 sZ3 = some o) : AWP (OkS Try.prog) A82M1L1 (qL [0, 5, 6, 7] [5, 1000000000] (S_spec_l1Cur_linksM1L1 rZ1) (qX 0 [0, 5] [5, 1000000000] (SX_spec_l1Cur_linksM1L1)) o) (S_spec_l1Cur_linksM1L1 rZ1 sZ3) := by
  unfold M_spec_l1Cur_linksM1L1 at h
  simp only [ZC, S_spec_l1Cur_linksM1L1, A82M1L1]
  obtain ⟨cZ4, h⟩ | ⟨cZ4, h⟩ := cond_s h
  · obtain ⟨rZ5, hrZ5, h⟩ := bind_s h
    refine ZF cZ4 ?_
    refine ZW cZ4 (w_spec_l1Cur_pickM1 _ _ hrZ5) (h2 := by first | exact nm_ok [1000000000] rfl (by decide +kernel) | exact nm_ok2 [1000000000] [] rfl (by decide +kernel) ZQ | exact ZQ) (hk := ?_)
    refine ZG ?_
    obtain ⟨rZ6, hrZ6, h⟩ := bind_s h
    refine ZF cZ4 ?_
    refine ZW cZ4 (w_spec_l1Cur_pickM1 _ _ hrZ6) (h2 := by first | exact nm_ok [1000000000] rfl (by decide +kernel) | exact nm_ok2 [1000000000] [] rfl (by decide +kernel) ZQ | exact ZQ) (hk := ?_)
    refine ZG ?_
    obtain ⟨uZ7, huZ7, h⟩ := bind_s h
    have huZ7g := grd_s huZ7
    obtain ⟨lZ8, hlZ8, h⟩ := bnd_s h
    have eZ9 : Row.arr 1 [(.i 0 : AV), (.i 3 : AV), (.i 5 : AV), (.i 10 : AV), (.i 10 : AV), (.i 20 : AV)] = Row.arr 1 (lZ8.map AV.i) := by rw [← hlZ8]; rfl
    have eZ10 : lZ8.length = 6 := by rw [← hlZ8]; rfl
    obtain ⟨rZ11, hrZ11, h⟩ := bind_s h
    refine ZF (ZA cZ4 (ZA huZ7g (ZA eZ9 eZ10))) ?_
    refine ZW (ZA cZ4 (ZA huZ7g (ZA eZ9 eZ10))) (w_spec_l1Cur_amongM2 _ _ hrZ11) (h2 := by first | exact nm_ok [1000000000, 1000000001] rfl (by decide +kernel) | exact nm_ok2 [1000000000, 1000000001] [] rfl (by decide +kernel) ZQ | exact ZQ) (hk := ?_)
    refine ZG ?_
    obtain ⟨lZ12, hlZ12, h⟩ := bnd_s h
    have eZ13 : Row.arr 3 [(.agg [.i rZ5.1, .i (Int.tmod (IntKind.wrap .i64 ((IntKind.wrap .i64 (rZ5.1 + 1)) + rZ6.1)) rZ1), .i rZ11.1] : AV)] = Row.arr 3 (lZ12.map (e_TLink .u)) := by rw [← hlZ12]; rfl
    have eZ14 : lZ12.length = 1 := by rw [← hlZ12]; rfl
    obtain ⟨uZ15, huZ15, h⟩ := bind_s h
    have huZ15g := grd_s huZ15
    obtain ⟨lZ16, hlZ16, h⟩ := bnd_s h
    have eZ17 : sZ3.2.1.map (e_TLink .u) ++ lZ12.map (e_TLink .u) = lZ16.map (e_TLink .u) := by rw [← hlZ16, List.map_append]
    have eZ18 : sZ3.2.1.length + 1 = lZ16.length := by simp [← hlZ8, ← hlZ12, ← hlZ16] <;> omega
    rw [eZ18] at huZ15g
    cases h
    exact ZL (ZA cZ4 (ZA huZ7g (ZA eZ9 (ZA eZ10 (ZA eZ13 (ZA eZ14 (ZA huZ15g (ZA eZ17 eZ18)))))))) (ZA S_spec_l1Cur_linksM1L1.eq_1 (ZA SX_spec_l1Cur_linksM1L1.eq_1 (ZA hlZ8.symm (ZA hlZ12.symm hlZ16.symm))))
  · cases h
    exact ZL cZ4 (ZA S_spec_l1Cur_linksM1L1.eq_1 SX_spec_l1Cur_linksM1L1.eq_1)
theorem w_spec_l1Cur_linksM1 (aaZ0 : Int) (abZ0 : Tl1Cur) {r : List TLink × Tl1Cur} (h : M_spec_l1Cur_linksM1 aaZ0 abZ0 = some r) : OkM Try.prog 82 [.pt 1000000000 0 0, .i aaZ0] [(1000000000, .var (.agg [.lst .o 1 (((abZ0).code).map AV.u8), .i ((abZ0).atF), .sc (.int .u64 ((abZ0).seed))]))] ((fun (r : List TLink × Tl1Cur) => .sl 4 0 r.1.length) r) ((fun (r : List TLink × Tl1Cur) => [(4, .arr 3 (r.1.map (e_TLink .u))), (1000000000, .var (.agg [.lst .o 1 (((r.2).code).map AV.u8), .i ((r.2).atF), .sc (.int .u64 ((r.2).seed))]))]) r) := by
  refine okM_of_body (lr := [4, 1000000000]) hmix m82M1 rfl rfl ?_
  unfold M_spec_l1Cur_linksM1 at h
  simp only [ZC, A82M1, V82M1]
  obtain ⟨rZ1, hrZ1, h⟩ := bind_s h
  refine ZF trivial ?_
  refine ZS trivial (w_spec_l1Most _ _ hrZ1) ?_
  refine ZG ?_
  obtain ⟨rZ2, hrZ2, h⟩ := bind_s h
  refine ZF trivial ?_
  refine ZW trivial (w_spec_l1Cur_pickM1 _ _ hrZ2) (h2 := by first | exact nm_ok [1000000000] rfl (by decide +kernel) | exact nm_ok2 [1000000000] [] rfl (by decide +kernel) ZQ | exact ZQ) (hk := ?_)
  refine ZG ?_
  obtain ⟨oZ19, hoZ19, h⟩ := bind_s h
  try refine ZF trivial ?_
  refine join_rule0 (blk_rule0 (loop_rule (w_spec_l1Cur_linksM1L1 rZ1) hoZ19 ?_)) ?_
  · exact ZK (ZA S_spec_l1Cur_linksM1L1.eq_1 SX_spec_l1Cur_linksM1L1.eq_1)
  · simp only [ZC, SX_spec_l1Cur_linksM1L1, A82M1R2]
    obtain ⟨rZ20, hrZ20, h⟩ := bind_s h
    refine ZF trivial ?_
    refine ZW trivial (w_spec_l1Cur_pickM1 _ _ hrZ20) (h2 := by first | exact nm_ok [1000000000] rfl (by decide +kernel) | exact nm_ok2 [1000000000] [] rfl (by decide +kernel) ZQ | exact ZQ) (hk := ?_)
    refine ZG ?_
    obtain ⟨cZ21, h⟩ | ⟨cZ21, h⟩ := cond_s h
    · obtain ⟨lZ22, hlZ22, h⟩ := bnd_s h
      have eZ23 : Row.arr 1 [(.i 1 : AV), (.i 8 : AV), (.i (-1) : AV)] = Row.arr 1 (lZ22.map AV.i) := by rw [← hlZ22]; rfl
      have eZ24 : lZ22.length = 3 := by rw [← hlZ22]; rfl
      obtain ⟨rZ25, hrZ25, h⟩ := bind_s h
      refine ZF (ZA cZ21 (ZA eZ23 eZ24)) ?_
      refine ZW (ZA cZ21 (ZA eZ23 eZ24)) (w_spec_l1Cur_amongM2 _ _ hrZ25) (h2 := by first | exact nm_ok [1000000000, 1000000001] rfl (by decide +kernel) | exact nm_ok2 [1000000000, 1000000001] [] rfl (by decide +kernel) ZQ | exact ZQ) (hk := ?_)
      refine ZG ?_
      obtain ⟨lZ26, hlZ26, h⟩ := bnd_s h
      have eZ27 : Row.arr 3 [(.agg [.i 1, .i rZ25.1, .i 5] : AV)] = Row.arr 3 (lZ26.map (e_TLink .u)) := by rw [← hlZ26]; rfl
      have eZ28 : lZ26.length = 1 := by rw [← hlZ26]; rfl
      obtain ⟨uZ29, huZ29, h⟩ := bind_s h
      have huZ29g := grd_s huZ29
      obtain ⟨lZ30, hlZ30, h⟩ := bnd_s h
      have eZ31 : oZ19.1.map (e_TLink .u) ++ lZ26.map (e_TLink .u) = lZ30.map (e_TLink .u) := by rw [← hlZ30, List.map_append]
      have eZ32 : oZ19.1.length + 1 = lZ30.length := by simp [← hlZ22, ← hlZ26, ← hlZ30] <;> omega
      rw [eZ32] at huZ29g
      cases h
      exact ZL (ZA cZ21 (ZA eZ23 (ZA eZ24 (ZA eZ27 (ZA eZ28 (ZA huZ29g (ZA eZ31 eZ32))))))) (ZA V82M1.eq_1 (ZA hlZ22.symm (ZA hlZ26.symm hlZ30.symm)))
    · obtain ⟨cZ33, h⟩ | ⟨cZ33, h⟩ := cond_s h
      · obtain ⟨lZ34, hlZ34, h⟩ := bnd_s h
        have eZ35 : Row.arr 1 [(.i (-1) : AV), (.i 10001 : AV)] = Row.arr 1 (lZ34.map AV.i) := by rw [← hlZ34]; rfl
        have eZ36 : lZ34.length = 2 := by rw [← hlZ34]; rfl
        obtain ⟨rZ37, hrZ37, h⟩ := bind_s h
        refine ZF (ZA cZ21 (ZA cZ33 (ZA eZ35 eZ36))) ?_
        refine ZW (ZA cZ21 (ZA cZ33 (ZA eZ35 eZ36))) (w_spec_l1Cur_amongM2 _ _ hrZ37) (h2 := by first | exact nm_ok [1000000000, 1000000001] rfl (by decide +kernel) | exact nm_ok2 [1000000000, 1000000001] [] rfl (by decide +kernel) ZQ | exact ZQ) (hk := ?_)
        refine ZG ?_
        obtain ⟨lZ38, hlZ38, h⟩ := bnd_s h
        have eZ39 : Row.arr 3 [(.agg [.i 1, .i 0, .i rZ37.1] : AV)] = Row.arr 3 (lZ38.map (e_TLink .u)) := by rw [← hlZ38]; rfl
        have eZ40 : lZ38.length = 1 := by rw [← hlZ38]; rfl
        obtain ⟨uZ41, huZ41, h⟩ := bind_s h
        have huZ41g := grd_s huZ41
        obtain ⟨lZ42, hlZ42, h⟩ := bnd_s h
        have eZ43 : oZ19.1.map (e_TLink .u) ++ lZ38.map (e_TLink .u) = lZ42.map (e_TLink .u) := by rw [← hlZ42, List.map_append]
        have eZ44 : oZ19.1.length + 1 = lZ42.length := by simp [← hlZ34, ← hlZ38, ← hlZ42] <;> omega
        rw [eZ44] at huZ41g
        cases h
        exact ZL (ZA cZ21 (ZA cZ33 (ZA eZ35 (ZA eZ36 (ZA eZ39 (ZA eZ40 (ZA huZ41g (ZA eZ43 eZ44)))))))) (ZA V82M1.eq_1 (ZA hlZ34.symm (ZA hlZ38.symm hlZ42.symm)))
      · cases h
        exact ZL (ZA cZ21 cZ33) V82M1.eq_1
def S_spec_l1Cur_tributariesM1L1 (rZ1 : Int) (v : Int × List TTributary × Tl1Cur) : St := ⟨[(0, .pt 1000000000 0 0), (5, .sl 5 0 v.2.1.length), (6, .i rZ1), (7, .i v.1)], [(5, .arr 3 (v.2.1.map (e_TTributary .u))), (1000000000, .var (.agg [.lst .o 1 (((v.2.2).code).map AV.u8), .i ((v.2.2).atF), .sc (.int .u64 ((v.2.2).seed))]))]⟩
def SX_spec_l1Cur_tributariesM1L1 (v : List TTributary × Tl1Cur) : St := ⟨[(0, .pt 1000000000 0 0), (5, .sl 5 0 v.1.length)], [(5, .arr 3 (v.1.map (e_TTributary .u))), (1000000000, .var (.agg [.lst .o 1 (((v.2).code).map AV.u8), .i ((v.2).atF), .sc (.int .u64 ((v.2).seed))]))]⟩
theorem w_spec_l1Cur_tributariesM1L1 (rZ1 : Int) (sZ3 : Int × List TTributary × Tl1Cur) (o : (Int × List TTributary × Tl1Cur) ⊕ (List TTributary × Tl1Cur)) (h : M_spec_l1Cur_tributariesM1L1 rZ1 sZ3 = some o) : AWP (OkS Try.prog) A83M1L1 (qL [0, 5, 6, 7] [5, 1000000000] (S_spec_l1Cur_tributariesM1L1 rZ1) (qX 0 [0, 5] [5, 1000000000] (SX_spec_l1Cur_tributariesM1L1)) o) (S_spec_l1Cur_tributariesM1L1 rZ1 sZ3) := by
  unfold M_spec_l1Cur_tributariesM1L1 at h
  simp only [ZC, S_spec_l1Cur_tributariesM1L1, A83M1L1]
  obtain ⟨cZ4, h⟩ | ⟨cZ4, h⟩ := cond_s h
  · obtain ⟨rZ5, hrZ5, h⟩ := bind_s h
    refine ZF cZ4 ?_
    refine ZW cZ4 (w_spec_l1Cur_pickM1 _ _ hrZ5) (h2 := by first | exact nm_ok [1000000000] rfl (by decide +kernel) | exact nm_ok2 [1000000000] [] rfl (by decide +kernel) ZQ | exact ZQ) (hk := ?_)
    refine ZG ?_
    obtain ⟨rZ6, hrZ6, h⟩ := bind_s h
    refine ZF cZ4 ?_
    refine ZW cZ4 (w_spec_l1Cur_pickM1 _ _ hrZ6) (h2 := by first | exact nm_ok [1000000000] rfl (by decide +kernel) | exact nm_ok2 [1000000000] [] rfl (by decide +kernel) ZQ | exact ZQ) (hk := ?_)
    refine ZG ?_
    obtain ⟨uZ7, huZ7, h⟩ := bind_s h
    have huZ7g := grd_s huZ7
    obtain ⟨lZ8, hlZ8, h⟩ := bnd_s h
    have eZ9 : Row.arr 1 [(.i 1 : AV), (.i 2 : AV), (.i 3 : AV), (.i 4 : AV), (.i 5 : AV), (.i 6 : AV), (.i 7 : AV), (.i 10 : AV)] = Row.arr 1 (lZ8.map AV.i) := by rw [← hlZ8]; rfl
    have eZ10 : lZ8.length = 8 := by rw [← hlZ8]; rfl
    obtain ⟨rZ11, hrZ11, h⟩ := bind_s h
    refine ZF (ZA cZ4 (ZA huZ7g (ZA eZ9 eZ10))) ?_
    refine ZW (ZA cZ4 (ZA huZ7g (ZA eZ9 eZ10))) (w_spec_l1Cur_amongM2 _ _ hrZ11) (h2 := by first | exact nm_ok [1000000000, 1000000001] rfl (by decide +kernel) | exact nm_ok2 [1000000000, 1000000001] [] rfl (by decide +kernel) ZQ | exact ZQ) (hk := ?_)
    refine ZG ?_
    obtain ⟨lZ12, hlZ12, h⟩ := bnd_s h
    have eZ13 : Row.arr 3 [(.agg [.i rZ5.1, .i (Int.tmod (IntKind.wrap .i64 ((IntKind.wrap .i64 (rZ5.1 + 1)) + rZ6.1)) rZ1), .i rZ11.1] : AV)] = Row.arr 3 (lZ12.map (e_TTributary .u)) := by rw [← hlZ12]; rfl
    have eZ14 : lZ12.length = 1 := by rw [← hlZ12]; rfl
    obtain ⟨uZ15, huZ15, h⟩ := bind_s h
    have huZ15g := grd_s huZ15
    obtain ⟨lZ16, hlZ16, h⟩ := bnd_s h
    have eZ17 : sZ3.2.1.map (e_TTributary .u) ++ lZ12.map (e_TTributary .u) = lZ16.map (e_TTributary .u) := by rw [← hlZ16, List.map_append]
    have eZ18 : sZ3.2.1.length + 1 = lZ16.length := by simp [← hlZ8, ← hlZ12, ← hlZ16] <;> omega
    rw [eZ18] at huZ15g
    cases h
    exact ZL (ZA cZ4 (ZA huZ7g (ZA eZ9 (ZA eZ10 (ZA eZ13 (ZA eZ14 (ZA huZ15g (ZA eZ17 eZ18)))))))) (ZA S_spec_l1Cur_tributariesM1L1.eq_1 (ZA SX_spec_l1Cur_tributariesM1L1.eq_1 (ZA hlZ8.symm (ZA hlZ12.symm hlZ16.symm))))
  · cases h
    exact ZL cZ4 (ZA S_spec_l1Cur_tributariesM1L1.eq_1 SX_spec_l1Cur_tributariesM1L1.eq_1)
def S_spec_l1Cur_tributariesM1L2 (v : List TTributary × Tl1Cur) : St := ⟨[(0, .pt 1000000000 0 0), (5, .sl 5 0 v.1.length)], [(5, .arr 3 (v.1.map (e_TTributary .u))), (1000000000, .var (.agg [.lst .o 1 (((v.2).code).map AV.u8), .i ((v.2).atF), .sc (.int .u64 ((v.2).seed))]))]⟩
def SX_spec_l1Cur_tributariesM1L2 (v : List TTributary × Tl1Cur) : St := ⟨[(5, .sl 5 0 v.1.length)], [(5, .arr 3 (v.1.map (e_TTributary .u))), (1000000000, .var (.agg [.lst .o 1 (((v.2).code).map AV.u8), .i ((v.2).atF), .sc (.int .u64 ((v.2).seed))]))]⟩
theorem w_spec_l1Cur_tributariesM1L2 (sZ46 : List TTributary × Tl1Cur) (o : (List TTributary × Tl1Cur) ⊕ (List TTributary × Tl1Cur)) (h : M_spec_l1Cur_tributariesM1L2 sZ46 = some o) : AWP (OkS Try.prog) A83M1L3 (qL [0, 5] [5, 1000000000] (S_spec_l1Cur_tributariesM1L2) (qX 3 [5] [5, 1000000000] (SX_spec_l1Cur_tributariesM1L2)) o) (S_spec_l1Cur_tributariesM1L2 sZ46) := by
  unfold M_spec_l1Cur_tributariesM1L2 at h
  simp only [ZC, S_spec_l1Cur_tributariesM1L2, A83M1L3]
  obtain ⟨rZ47, hrZ47, h⟩ := bind_s h
  refine ZF trivial ?_
  refine ZW trivial (w_spec_l1Cur_pickM1 _ _ hrZ47) (h2 := by first | exact nm_ok [1000000000] rfl (by decide +kernel) | exact nm_ok2 [1000000000] [] rfl (by decide +kernel) ZQ | exact ZQ) (hk := ?_)
  refine ZG ?_
  obtain ⟨cZ48, h⟩ | ⟨cZ48, h⟩ := cond_s h
  · obtain ⟨lZ49, hlZ49, h⟩ := bnd_s h
    have eZ50 : Row.arr 3 [(.agg [.i 0, .i 1, .i 1] : AV)] = Row.arr 3 (lZ49.map (e_TTributary .u)) := by rw [← hlZ49]; rfl
    have eZ51 : lZ49.length = 1 := by rw [← hlZ49]; rfl
    obtain ⟨uZ52, huZ52, h⟩ := bind_s h
    have huZ52g := grd_s huZ52
    obtain ⟨lZ53, hlZ53, h⟩ := bnd_s h
    have eZ54 : sZ46.1.map (e_TTributary .u) ++ lZ49.map (e_TTributary .u) = lZ53.map (e_TTributary .u) := by rw [← hlZ53, List.map_append]
    have eZ55 : sZ46.1.length + 1 = lZ53.length := by simp [← hlZ49, ← hlZ53] <;> omega
    rw [eZ55] at huZ52g
    cases h
    exact ZL (ZA cZ48 (ZA eZ50 (ZA eZ51 (ZA huZ52g (ZA eZ54 eZ55))))) (ZA S_spec_l1Cur_tributariesM1L2.eq_1 (ZA SX_spec_l1Cur_tributariesM1L2.eq_1 (ZA hlZ49.symm hlZ53.symm)))
  · cases h
    exact ZL cZ48 (ZA S_spec_l1Cur_tributariesM1L2.eq_1 SX_spec_l1Cur_tributariesM1L2.eq_1)
theorem w_spec_l1Cur_tributariesM1 (aaZ0 : Int) (abZ0 : Tl1Cur) {r : List TTributary × Tl1Cur} (h : M_spec_l1Cur_tributariesM1 aaZ0 abZ0 = some r) : OkM Try.prog 83 [.pt 1000000000 0 0, .i aaZ0] [(1000000000, .var (.agg [.lst .o 1 (((abZ0).code).map AV.u8), .i ((abZ0).atF), .sc (.int .u64 ((abZ0).seed))]))] ((fun (r : List TTributary × Tl1Cur) => .sl 4 0 r.1.length) r) ((fun (r : List TTributary × Tl1Cur) => [(4, .arr 3 (r.1.map (e_TTributary .u))), (1000000000, .var (.agg [.lst .o 1 (((r.2).code).map AV.u8), .i ((r.2).atF), .sc (.int .u64 ((r.2).seed))]))]) r) := by
  refine okM_of_body (lr := [4, 1000000000]) hmix m83M1 rfl rfl ?_
  unfold M_spec_l1Cur_tributariesM1 at h
  simp only [ZC, A83M1, V83M1]
  obtain ⟨rZ1, hrZ1, h⟩ := bind_s h
  refine ZF trivial ?_
  refine ZS trivial (w_spec_l1Most _ _ hrZ1) ?_
  refine ZG ?_
  obtain ⟨rZ2, hrZ2, h⟩ := bind_s h
  refine ZF trivial ?_
  refine ZW trivial (w_spec_l1Cur_pickM1 _ _ hrZ2) (h2 := by first | exact nm_ok [1000000000] rfl (by decide +kernel) | exact nm_ok2 [1000000000] [] rfl (by decide +kernel) ZQ | exact ZQ) (hk := ?_)
  refine ZG ?_
  obtain ⟨oZ19, hoZ19, h⟩ := bind_s h
  try refine ZF trivial ?_
  refine join_rule0 (blk_rule0 (loop_rule (w_spec_l1Cur_tributariesM1L1 rZ1) hoZ19 ?_)) ?_
  · exact ZK (ZA S_spec_l1Cur_tributariesM1L1.eq_1 SX_spec_l1Cur_tributariesM1L1.eq_1)
  · simp only [ZC, SX_spec_l1Cur_tributariesM1L1, A83M1R2]
    obtain ⟨oZ58, hoZ58, h⟩ := bind_s h
    try refine ZF trivial ?_
    refine join_rule0 (sh := (fun v => ⟨[(5, .sl 5 0 v.1.length)], [(5, .arr 3 (v.1.map (e_TTributary .u))), (1000000000, .var (.agg [.lst .o 1 (((v.2).code).map AV.u8), .i ((v.2).atF), .sc (.int .u64 ((v.2).seed))]))]⟩)) (s := oZ58) ?_ ?_
    · replace h := hoZ58
      obtain ⟨rZ20, hrZ20, h⟩ := bind_s h
      refine ZF trivial ?_
      refine ZW trivial (w_spec_l1Cur_pickM1 _ _ hrZ20) (h2 := by first | exact nm_ok [1000000000] rfl (by decide +kernel) | exact nm_ok2 [1000000000] [] rfl (by decide +kernel) ZQ | exact ZQ) (hk := ?_)
      refine ZG ?_
      obtain ⟨cZ21, h⟩ | ⟨cZ21, h⟩ := cond_s h
      · obtain ⟨lZ22, hlZ22, h⟩ := bnd_s h
        have eZ23 : Row.arr 1 [(.i 0 : AV), (.i 8 : AV), (.i (-1) : AV)] = Row.arr 1 (lZ22.map AV.i) := by rw [← hlZ22]; rfl
        have eZ24 : lZ22.length = 3 := by rw [← hlZ22]; rfl
        obtain ⟨rZ25, hrZ25, h⟩ := bind_s h
        refine ZF (ZA cZ21 (ZA eZ23 eZ24)) ?_
        refine ZW (ZA cZ21 (ZA eZ23 eZ24)) (w_spec_l1Cur_amongM2 _ _ hrZ25) (h2 := by first | exact nm_ok [1000000000, 1000000001] rfl (by decide +kernel) | exact nm_ok2 [1000000000, 1000000001] [] rfl (by decide +kernel) ZQ | exact ZQ) (hk := ?_)
        refine ZG ?_
        obtain ⟨lZ26, hlZ26, h⟩ := bnd_s h
        have eZ27 : Row.arr 3 [(.agg [.i 0, .i rZ25.1, .i 1] : AV)] = Row.arr 3 (lZ26.map (e_TTributary .u)) := by rw [← hlZ26]; rfl
        have eZ28 : lZ26.length = 1 := by rw [← hlZ26]; rfl
        obtain ⟨uZ29, huZ29, h⟩ := bind_s h
        have huZ29g := grd_s huZ29
        obtain ⟨lZ30, hlZ30, h⟩ := bnd_s h
        have eZ31 : oZ19.1.map (e_TTributary .u) ++ lZ26.map (e_TTributary .u) = lZ30.map (e_TTributary .u) := by rw [← hlZ30, List.map_append]
        have eZ32 : oZ19.1.length + 1 = lZ30.length := by simp [← hlZ22, ← hlZ26, ← hlZ30] <;> omega
        rw [eZ32] at huZ29g
        cases h
        exact ZL (ZA cZ21 (ZA eZ23 (ZA eZ24 (ZA eZ27 (ZA eZ28 (ZA huZ29g (ZA eZ31 eZ32))))))) (ZA hlZ22.symm (ZA hlZ26.symm hlZ30.symm))
      · obtain ⟨cZ33, h⟩ | ⟨cZ33, h⟩ := cond_s h
        · obtain ⟨lZ34, hlZ34, h⟩ := bnd_s h
          have eZ35 : Row.arr 1 [(.i 0 : AV), (.i 1001 : AV), (.i 1000 : AV)] = Row.arr 1 (lZ34.map AV.i) := by rw [← hlZ34]; rfl
          have eZ36 : lZ34.length = 3 := by rw [← hlZ34]; rfl
          obtain ⟨rZ37, hrZ37, h⟩ := bind_s h
          refine ZF (ZA cZ21 (ZA cZ33 (ZA eZ35 eZ36))) ?_
          refine ZW (ZA cZ21 (ZA cZ33 (ZA eZ35 eZ36))) (w_spec_l1Cur_amongM2 _ _ hrZ37) (h2 := by first | exact nm_ok [1000000000, 1000000001] rfl (by decide +kernel) | exact nm_ok2 [1000000000, 1000000001] [] rfl (by decide +kernel) ZQ | exact ZQ) (hk := ?_)
          refine ZG ?_
          obtain ⟨lZ38, hlZ38, h⟩ := bnd_s h
          have eZ39 : Row.arr 3 [(.agg [.i 0, .i 1, .i rZ37.1] : AV)] = Row.arr 3 (lZ38.map (e_TTributary .u)) := by rw [← hlZ38]; rfl
          have eZ40 : lZ38.length = 1 := by rw [← hlZ38]; rfl
          obtain ⟨uZ41, huZ41, h⟩ := bind_s h
          have huZ41g := grd_s huZ41
          obtain ⟨lZ42, hlZ42, h⟩ := bnd_s h
          have eZ43 : oZ19.1.map (e_TTributary .u) ++ lZ38.map (e_TTributary .u) = lZ42.map (e_TTributary .u) := by rw [← hlZ42, List.map_append]
          have eZ44 : oZ19.1.length + 1 = lZ42.length := by simp [← hlZ34, ← hlZ38, ← hlZ42] <;> omega
          rw [eZ44] at huZ41g
          cases h
          exact ZL (ZA cZ21 (ZA cZ33 (ZA eZ35 (ZA eZ36 (ZA eZ39 (ZA eZ40 (ZA huZ41g (ZA eZ43 eZ44)))))))) (ZA hlZ34.symm (ZA hlZ38.symm hlZ42.symm))
        · obtain ⟨cZ45, h⟩ | ⟨cZ45, h⟩ := cond_s h
          · obtain ⟨oZ56, hoZ56, h⟩ := bind_s h
            try refine ZF (ZA cZ21 (ZA cZ33 cZ45)) ?_
            first | refine tail_rule0 (blk_rule0 (loop_rule (w_spec_l1Cur_tributariesM1L2) hoZ56 ?_)) (fun τ qZ57 => ?_) | refine tail_blk0 (loop_rule (w_spec_l1Cur_tributariesM1L2) hoZ56 ?_) (fun τ qZ57 => ?_)
            · exact ZK (ZA S_spec_l1Cur_tributariesM1L2.eq_1 SX_spec_l1Cur_tributariesM1L2.eq_1)
            · cases h
              try refine ZF trivial ?_
              refine ⟨rfl, Shp.sub qZ57 (by decide) (by decide) ?_⟩
              exact ZK SX_spec_l1Cur_tributariesM1L2.eq_1
          · cases h
            exact ZL (ZA cZ21 (ZA cZ33 cZ45)) trivial
    · simp only [ZC, A83M1R4]
      cases h
      exact ZL trivial V83M1.eq_1
theorem w_spec_DrawGroomAll (codeZ0 : List Int) {r : List TLink × Int × List TTributary} (h : M_spec_DrawGroomAll codeZ0 = some r) : Ok Try.prog 44 [.lst .o 1 (codeZ0.map AV.u8)] ((fun r => .tup [.lst .u 3 (r.1.map (e_TLink .u)), .i r.2.1, .lst .u 3 (r.2.2.map (e_TTributary .u))]) r) := by
  refine ok_of_body hmix m44 rfl ?_
  unfold M_spec_DrawGroomAll at h
  simp only [ZC, A44, V44, body_eq]
  obtain ⟨rZ1, hrZ1, h⟩ := bind_s h
  refine ZF trivial ?_
  refine ZW trivial (w_spec_l1Cur_nodes18M1 _ hrZ1) (h2 := by first | exact nm_ok [1000000000] rfl (by decide +kernel) | exact nm_ok2 [1000000000] [] rfl (by decide +kernel) ZQ | exact ZQ) (hk := ?_)
  refine ZG ?_
  obtain ⟨rZ2, hrZ2, h⟩ := bind_s h
  refine ZF trivial ?_
  refine ZW trivial (w_spec_l1Cur_linksM1 _ _ hrZ2) (h2 := by first | exact nm_ok [4, 1000000000] rfl (by decide +kernel) | exact nm_ok2 [4, 1000000000] [1500004] rfl (by decide +kernel) ZQ | exact ZQ) (hk := ?_)
  refine ZG ?_
  obtain ⟨rZ3, hrZ3, h⟩ := bind_s h
  refine ZF trivial ?_
  refine ZW trivial (w_spec_l1Cur_tributariesM1 _ _ hrZ3) (h2 := by first | exact nm_ok [4, 1000000000] rfl (by decide +kernel) | exact nm_ok2 [4, 1000000000] [1900004] rfl (by decide +kernel) ZQ | exact ZQ) (hk := ?_)
  refine ZG ?_
  cases h
  exact ZL trivial V44.eq_1
theorem w_impl_within (nZ0 : Int) (lowZ0 : Int) (highZ0 : Int) {r : Bool} (h : M_impl_within nZ0 lowZ0 highZ0 = some r) : Ok Try.prog 55 [.i nZ0, .i lowZ0, .i highZ0] ((fun r => .b r) r) := by
  refine ok_of_body hmix m55 rfl ?_
  unfold M_impl_within at h
  simp only [ZC, A55, V55, body_eq]
  obtain ⟨cZ1, h⟩ | ⟨cZ1, h⟩ := cond_s h
  · cases h
    exact ZL cZ1 V55.eq_1
  · cases h
    exact ZL cZ1 V55.eq_1
def S_slices_IndexFunc_LinkL1 (sZ0 : List TLink) (F_fZ0 : Nat) (C_fZ0 : List AV) (v : Int) : St := ⟨[(0, .lst .o 3 (sZ0.map (e_TLink .o))), (1, .fn F_fZ0 C_fZ0), (7, .i (sZ0.length : Int)), (8, .i v)], []⟩
def SX_slices_IndexFunc_LinkL1 (v : Unit) : St := ⟨[], []⟩
theorem w_slices_IndexFunc_LinkL1 (sZ0 : List TLink) (fZ0 : TLink → Option Bool) (F_fZ0 : Nat) (C_fZ0 : List AV) (hC_fZ0 : Fixed C_fZ0) (hf_fZ0 : ∀ (x0 : TLink) (r : Bool), fZ0 x0 = some r → Ok Try.prog F_fZ0 ((.agg [.i x0.A, .i x0.B, .i x0.Capacity]) :: C_fZ0) (.b r)) (sZ1 : Int) (o : Int ⊕ (Unit ⊕ Int)) (h : M_slices_IndexFunc_LinkL1 sZ0 fZ0 sZ1 = some o) : AWP (OkS Try.prog) A113L1 (qL [0, 1, 7, 8] [] (S_slices_IndexFunc_LinkL1 sZ0 F_fZ0 C_fZ0) (qS (qX 0 [] [] (SX_slices_IndexFunc_LinkL1)) (qR V113 (fun r => .i r))) o) (S_slices_IndexFunc_LinkL1 sZ0 F_fZ0 C_fZ0 sZ1) := by
  unfold M_slices_IndexFunc_LinkL1 at h
  simp only [ZC, S_slices_IndexFunc_LinkL1, A113L1]
  obtain ⟨cZ2, h⟩ | ⟨cZ2, h⟩ := cond_s h
  · obtain ⟨yZ3, hyZ3, h⟩ := bind_s h
    obtain ⟨hyZ3a, hyZ3b⟩ := geti_s hyZ3
    obtain ⟨rZ4, hrZ4, h⟩ := bind_s h
    refine ZF (ZA cZ2 (ZA hyZ3a hyZ3b)) ?_
    refine ZS (ZA cZ2 (ZA hyZ3a (ZA hyZ3b hC_fZ0.1))) (hf_fZ0 _ _ hrZ4) ?_
    refine ZG ?_
    obtain ⟨cZ5, h⟩ | ⟨cZ5, h⟩ := cond_s h
    · cases h
      exact ZL (ZA cZ2 (ZA hyZ3a (ZA hyZ3b cZ5))) (ZA V113.eq_1 (ZA hC_fZ0.2 ((fixed_ren hC_fZ0))))
    · cases h
      exact ZL (ZA cZ2 (ZA hyZ3a (ZA hyZ3b cZ5))) (ZA S_slices_IndexFunc_LinkL1.eq_1 (ZA SX_slices_IndexFunc_LinkL1.eq_1 (ZA hC_fZ0.2 ((fixed_ren hC_fZ0)))))
  · cases h
    exact ZL cZ2 (ZA S_slices_IndexFunc_LinkL1.eq_1 (ZA SX_slices_IndexFunc_LinkL1.eq_1 (ZA hC_fZ0.2 ((fixed_ren hC_fZ0)))))
theorem w_slices_IndexFunc_Link (sZ0 : List TLink) (fZ0 : TLink → Option Bool) {r : Int} (h : M_slices_IndexFunc_Link sZ0 fZ0 = some r) (F_fZ0 : Nat) (C_fZ0 : List AV) (hC_fZ0 : Fixed C_fZ0) (hf_fZ0 : ∀ (x0 : TLink) (r : Bool), fZ0 x0 = some r → Ok Try.prog F_fZ0 ((.agg [.i x0.A, .i x0.B, .i x0.Capacity]) :: C_fZ0) (.b r)) : Ok Try.prog 113 [.lst .o 3 (sZ0.map (e_TLink .o)), .fn F_fZ0 C_fZ0] ((fun r => .i r) r) := by
  refine ok_of_body hmix m113 rfl ?_
  unfold M_slices_IndexFunc_Link at h
  simp only [ZC, A113, V113, body_eq]
  obtain ⟨oZ6, hoZ6, h⟩ := bind_s h
  try refine ZF trivial ?_
  refine join_rule (o := oZ6) (blk_rule sideR (loop_rule (w_slices_IndexFunc_LinkL1 sZ0 fZ0 F_fZ0 C_fZ0 hC_fZ0 hf_fZ0) hoZ6 ?_)) (fun vZ7 hv => ?_) (fun xZ8 hv e τ hne hq => ?_)
  · exact ZK (ZA S_slices_IndexFunc_LinkL1.eq_1 (ZA SX_slices_IndexFunc_LinkL1.eq_1 (ZA hC_fZ0.2 ((fixed_ren hC_fZ0)))))
  · subst hv
    simp only [] at h
    simp only [ZC, SX_slices_IndexFunc_LinkL1, A113R2]
    cases h
    exact ZL trivial (ZA V113.eq_1 (ZA hC_fZ0.2 ((fixed_ren hC_fZ0))))
  · subst hv
    simp only [] at h
    obtain ⟨rfl, qZ9⟩ := hq
    cases h
    exact qZ9
theorem w_slices_ContainsFunc_Link (sZ0 : List TLink) (fZ0 : TLink → Option Bool) {r : Bool} (h : M_slices_ContainsFunc_Link sZ0 fZ0 = some r) (F_fZ0 : Nat) (C_fZ0 : List AV) (hC_fZ0 : Fixed C_fZ0) (hf_fZ0 : ∀ (x0 : TLink) (r : Bool), fZ0 x0 = some r → Ok Try.prog F_fZ0 ((.agg [.i x0.A, .i x0.B, .i x0.Capacity]) :: C_fZ0) (.b r)) : Ok Try.prog 101 [.lst .o 3 (sZ0.map (e_TLink .o)), .fn F_fZ0 C_fZ0] ((fun r => .b r) r) := by
  refine ok_of_body hmix m101 rfl ?_
  unfold M_slices_ContainsFunc_Link at h
  simp only [ZC, A101, V101, body_eq]
  obtain ⟨rZ1, hrZ1, h⟩ := bind_s h
  refine ZF trivial ?_
  refine ZS hC_fZ0.1 (w_slices_IndexFunc_Link _ _ hrZ1 F_fZ0 C_fZ0 hC_fZ0 hf_fZ0) ?_
  refine ZG ?_
  cases h
  exact ZL trivial (ZA V101.eq_1 (ZA hC_fZ0.2 ((fixed_ren hC_fZ0))))
theorem w_impl_areEnds (aZ0 : Int) (bZ0 : Int) (nodesZ0 : Int) {r : Bool} (h : M_impl_areEnds aZ0 bZ0 nodesZ0 = some r) : Ok Try.prog 58 [.i aZ0, .i bZ0, .i nodesZ0] ((fun r => .b r) r) := by
  refine ok_of_body hmix m58 rfl ?_
  unfold M_impl_areEnds at h
  simp only [ZC, A58, V58, body_eq]
  obtain ⟨rZ1, hrZ1, h⟩ := bind_s h
  refine ZF trivial ?_
  refine ZS trivial (w_impl_within _ _ _ hrZ1) ?_
  refine ZG ?_
  obtain ⟨cZ2, h⟩ | ⟨cZ2, h⟩ := cond_s h
  · obtain ⟨rZ3, hrZ3, h⟩ := bind_s h
    refine ZF cZ2 ?_
    refine ZS cZ2 (w_impl_within _ _ _ hrZ3) ?_
    refine ZG ?_
    obtain ⟨cZ4, h⟩ | ⟨cZ4, h⟩ := cond_s h
    · cases h
      exact ZL (ZA cZ2 cZ4) V58.eq_1
    · cases h
      exact ZL (ZA cZ2 cZ4) V58.eq_1
  · cases h
    exact ZL cZ2 V58.eq_1
theorem w_impl_areLinks_c1 (lZ0 : TLink) (p1Z0 : Int) {r : Bool} (h : M_impl_areLinks_c1 lZ0 p1Z0 = some r) : Ok Try.prog 102 [.agg [.i lZ0.A, .i lZ0.B, .i lZ0.Capacity], .bp (.i p1Z0) 0] ((fun r => .b r) r) := by
  refine ok_of_body hmix m102 rfl ?_
  unfold M_impl_areLinks_c1 at h
  simp only [ZC, A102, V102, body_eq]
  obtain ⟨rZ1, hrZ1, h⟩ := bind_s h
  refine ZF trivial ?_
  refine ZS trivial (w_impl_areEnds _ _ _ hrZ1) ?_
  refine ZG ?_
  obtain ⟨cZ2, h⟩ | ⟨cZ2, h⟩ := cond_s h
  · cases h
    exact ZL cZ2 V102.eq_1
  · obtain ⟨rZ3, hrZ3, h⟩ := bind_s h
    refine ZF cZ2 ?_
    refine ZS cZ2 (w_impl_within _ _ _ hrZ3) ?_
    refine ZG ?_
    cases h
    exact ZL cZ2 V102.eq_1
theorem w_impl_areLinks (linksZ0 : List TLink) (nodesZ0 : Int) {r : Bool} (h : M_impl_areLinks linksZ0 nodesZ0 = some r) : Ok Try.prog 70 [.lst .o 3 (linksZ0.map (e_TLink .o)), .i nodesZ0] ((fun r => .b r) r) := by
  refine ok_of_body hmix m70 rfl ?_
  unfold M_impl_areLinks at h
  simp only [ZC, A70, V70, body_eq]
  obtain ⟨rZ1, hrZ1, h⟩ := bind_s h
  refine ZF trivial ?_
  refine ZS trivial (w_impl_within _ _ _ hrZ1) ?_
  refine ZG ?_
  obtain ⟨cZ2, h⟩ | ⟨cZ2, h⟩ := cond_s h
  · obtain ⟨cZ3, h⟩ | ⟨cZ3, h⟩ := cond_s h
    · obtain ⟨rZ4, hrZ4, h⟩ := bind_s h
      refine ZF (ZA cZ2 cZ3) ?_
      refine ZS (ZA cZ2 cZ3) (w_slices_ContainsFunc_Link _ _ hrZ4 102 [.bp (.i nodesZ0) 0] ⟨fun ρ k => by simp only [VS1, VS2, VS3, VS4, VS5, VS6, VT1, VT2, finM_ret, finM_nrm, decide_true, decide_false, List.nodup_nil, List.nodup_cons, oks_p, oks_m, oks_h, ne_eq, not_false_eq_true, Int.reduceEq, Int.reduceNe, true_and, Nat.reduceSub, Nat.reduceMul, ↓reduceIte, reduceCtorEq, Nat.reduceEqDiff, Nat.reduceAdd, Nat.reduceLeDiff, Int.reduceLE], by simp [mentsL, AV.ments]⟩ (fun _ _ h => w_impl_areLinks_c1 _ _ h)) ?_
      refine ZG ?_
      cases h
      exact ZL (ZA cZ2 cZ3) V70.eq_1
    · cases h
      exact ZL (ZA cZ2 cZ3) V70.eq_1
  · cases h
    exact ZL cZ2 V70.eq_1
def S_slices_IndexFunc_TributaryL1 (sZ0 : List TTributary) (F_fZ0 : Nat) (C_fZ0 : List AV) (v : Int) : St := ⟨[(0, .lst .o 3 (sZ0.map (e_TTributary .o))), (1, .fn F_fZ0 C_fZ0), (7, .i (sZ0.length : Int)), (8, .i v)], []⟩
def SX_slices_IndexFunc_TributaryL1 (v : Unit) : St := ⟨[], []⟩
theorem w_slices_IndexFunc_TributaryL1 (sZ0 : List TTributary) (fZ0 : TTributary → Option Bool) (F_fZ0 : Nat) (C_fZ0 : List AV) (hC_fZ0 : Fixed C_fZ0) (hf_fZ0 : ∀ (x0 : TTributary) (r : Bool), fZ0 x0 = some r → Ok Try.prog F_fZ0 ((.agg [.i x0.From, .i x0.To, .i x0.Rate]) :: C_fZ0) (.b r)) (sZ1 : Int) (o : Int ⊕ (Unit ⊕ Int)) (h : M_slices_IndexFunc_TributaryL1 sZ0 fZ0 sZ1 = some o) : AWP (OkS Try.prog) A96L1 (qL [0, 1, 7, 8] [] (S_slices_IndexFunc_TributaryL1 sZ0 F_fZ0 C_fZ0) (qS (qX 0 [] [] (SX_slices_IndexFunc_TributaryL1)) (qR V96 (fun r => .i r))) o) (S_slices_IndexFunc_TributaryL1 sZ0 F_fZ0 C_fZ0 sZ1) := by
  unfold M_slices_IndexFunc_TributaryL1 at h
  simp only [ZC, S_slices_IndexFunc_TributaryL1, A96L1]
  obtain ⟨cZ2, h⟩ | ⟨cZ2, h⟩ := cond_s h
  · obtain ⟨yZ3, hyZ3, h⟩ := bind_s h
    obtain ⟨hyZ3a, hyZ3b⟩ := geti_s hyZ3
    obtain ⟨rZ4, hrZ4, h⟩ := bind_s h
    refine ZF (ZA cZ2 (ZA hyZ3a hyZ3b)) ?_
    refine ZS (ZA cZ2 (ZA hyZ3a (ZA hyZ3b hC_fZ0.1))) (hf_fZ0 _ _ hrZ4) ?_
    refine ZG ?_
    obtain ⟨cZ5, h⟩ | ⟨cZ5, h⟩ := cond_s h
    · cases h
      exact ZL (ZA cZ2 (ZA hyZ3a (ZA hyZ3b cZ5))) (ZA V96.eq_1 (ZA hC_fZ0.2 ((fixed_ren hC_fZ0))))
    · cases h
      exact ZL (ZA cZ2 (ZA hyZ3a (ZA hyZ3b cZ5))) (ZA S_slices_IndexFunc_TributaryL1.eq_1 (ZA SX_slices_IndexFunc_TributaryL1.eq_1 (ZA hC_fZ0.2 ((fixed_ren hC_fZ0)))))
  · cases h
    exact ZL cZ2 (ZA S_slices_IndexFunc_TributaryL1.eq_1 (ZA SX_slices_IndexFunc_TributaryL1.eq_1 (ZA hC_fZ0.2 ((fixed_ren hC_fZ0)))))
theorem w_slices_IndexFunc_Tributary (sZ0 : List TTributary) (fZ0 : TTributary → Option Bool) {r : Int} (h : M_slices_IndexFunc_Tributary sZ0 fZ0 = some r) (F_fZ0 : Nat) (C_fZ0 : List AV) (hC_fZ0 : Fixed C_fZ0) (hf_fZ0 : ∀ (x0 : TTributary) (r : Bool), fZ0 x0 = some r → Ok Try.prog F_fZ0 ((.agg [.i x0.From, .i x0.To, .i x0.Rate]) :: C_fZ0) (.b r)) : Ok Try.prog 96 [.lst .o 3 (sZ0.map (e_TTributary .o)), .fn F_fZ0 C_fZ0] ((fun r => .i r) r) := by
  refine ok_of_body hmix m96 rfl ?_
  unfold M_slices_IndexFunc_Tributary at h
  simp only [ZC, A96, V96, body_eq]
  obtain ⟨oZ6, hoZ6, h⟩ := bind_s h
  try refine ZF trivial ?_
  refine join_rule (o := oZ6) (blk_rule sideR (loop_rule (w_slices_IndexFunc_TributaryL1 sZ0 fZ0 F_fZ0 C_fZ0 hC_fZ0 hf_fZ0) hoZ6 ?_)) (fun vZ7 hv => ?_) (fun xZ8 hv e τ hne hq => ?_)
  · exact ZK (ZA S_slices_IndexFunc_TributaryL1.eq_1 (ZA SX_slices_IndexFunc_TributaryL1.eq_1 (ZA hC_fZ0.2 ((fixed_ren hC_fZ0)))))
  · subst hv
    simp only [] at h
    simp only [ZC, SX_slices_IndexFunc_TributaryL1, A96R2]
    cases h
    exact ZL trivial (ZA V96.eq_1 (ZA hC_fZ0.2 ((fixed_ren hC_fZ0))))
  · subst hv
    simp only [] at h
    obtain ⟨rfl, qZ9⟩ := hq
    cases h
    exact qZ9
theorem w_slices_ContainsFunc_Tributary (sZ0 : List TTributary) (fZ0 : TTributary → Option Bool) {r : Bool} (h : M_slices_ContainsFunc_Tributary sZ0 fZ0 = some r) (F_fZ0 : Nat) (C_fZ0 : List AV) (hC_fZ0 : Fixed C_fZ0) (hf_fZ0 : ∀ (x0 : TTributary) (r : Bool), fZ0 x0 = some r → Ok Try.prog F_fZ0 ((.agg [.i x0.From, .i x0.To, .i x0.Rate]) :: C_fZ0) (.b r)) : Ok Try.prog 56 [.lst .o 3 (sZ0.map (e_TTributary .o)), .fn F_fZ0 C_fZ0] ((fun r => .b r) r) := by
  refine ok_of_body hmix m56 rfl ?_
  unfold M_slices_ContainsFunc_Tributary at h
  simp only [ZC, A56, V56, body_eq]
  obtain ⟨rZ1, hrZ1, h⟩ := bind_s h
  refine ZF trivial ?_
  refine ZS hC_fZ0.1 (w_slices_IndexFunc_Tributary _ _ hrZ1 F_fZ0 C_fZ0 hC_fZ0 hf_fZ0) ?_
  refine ZG ?_
  cases h
  exact ZL trivial (ZA V56.eq_1 (ZA hC_fZ0.2 ((fixed_ren hC_fZ0))))
theorem w_impl_IsValidTributaries_c1 (tZ0 : TTributary) (p1Z0 : Int) {r : Bool} (h : M_impl_IsValidTributaries_c1 tZ0 p1Z0 = some r) : Ok Try.prog 57 [.agg [.i tZ0.From, .i tZ0.To, .i tZ0.Rate], .bp (.i p1Z0) 0] ((fun r => .b r) r) := by
  refine ok_of_body hmix m57 rfl ?_
  unfold M_impl_IsValidTributaries_c1 at h
  simp only [ZC, A57, V57, body_eq]
  obtain ⟨rZ1, hrZ1, h⟩ := bind_s h
  refine ZF trivial ?_
  refine ZS trivial (w_impl_areEnds _ _ _ hrZ1) ?_
  refine ZG ?_
  obtain ⟨cZ2, h⟩ | ⟨cZ2, h⟩ := cond_s h
  · cases h
    exact ZL cZ2 V57.eq_1
  · obtain ⟨rZ3, hrZ3, h⟩ := bind_s h
    refine ZF cZ2 ?_
    refine ZS cZ2 (w_impl_within _ _ _ hrZ3) ?_
    refine ZG ?_
    cases h
    exact ZL cZ2 V57.eq_1
theorem w_impl_IsValidTributaries (listZ0 : List TTributary) (nodesZ0 : Int) {r : Bool} (h : M_impl_IsValidTributaries listZ0 nodesZ0 = some r) : Ok Try.prog 17 [.lst .o 3 (listZ0.map (e_TTributary .o)), .i nodesZ0] ((fun r => .b r) r) := by
  refine ok_of_body hmix m17 rfl ?_
  unfold M_impl_IsValidTributaries at h
  simp only [ZC, A17, V17, body_eq]
  obtain ⟨rZ1, hrZ1, h⟩ := bind_s h
  refine ZF trivial ?_
  refine ZS trivial (w_impl_within _ _ _ hrZ1) ?_
  refine ZG ?_
  obtain ⟨cZ2, h⟩ | ⟨cZ2, h⟩ := cond_s h
  · obtain ⟨cZ3, h⟩ | ⟨cZ3, h⟩ := cond_s h
    · obtain ⟨rZ4, hrZ4, h⟩ := bind_s h
      refine ZF (ZA cZ2 cZ3) ?_
      refine ZS (ZA cZ2 cZ3) (w_slices_ContainsFunc_Tributary _ _ hrZ4 57 [.bp (.i nodesZ0) 0] ⟨fun ρ k => by simp only [VS1, VS2, VS3, VS4, VS5, VS6, VT1, VT2, finM_ret, finM_nrm, decide_true, decide_false, List.nodup_nil, List.nodup_cons, oks_p, oks_m, oks_h, ne_eq, not_false_eq_true, Int.reduceEq, Int.reduceNe, true_and, Nat.reduceSub, Nat.reduceMul, ↓reduceIte, reduceCtorEq, Nat.reduceEqDiff, Nat.reduceAdd, Nat.reduceLeDiff, Int.reduceLE], by simp [mentsL, AV.ments]⟩ (fun _ _ h => w_impl_IsValidTributaries_c1 _ _ h)) ?_
      refine ZG ?_
      cases h
      exact ZL (ZA cZ2 cZ3) V17.eq_1
    · cases h
      exact ZL (ZA cZ2 cZ3) V17.eq_1
  · cases h
    exact ZL cZ2 V17.eq_1
theorem w_impl_isGrooming (linksZ0 : List TLink) (nodesZ0 : Int) (listZ0 : List TTributary) {r : Bool} (h : M_impl_isGrooming linksZ0 nodesZ0 listZ0 = some r) : Ok Try.prog 75 [.lst .o 3 (linksZ0.map (e_TLink .o)), .i nodesZ0, .lst .o 3 (listZ0.map (e_TTributary .o))] ((fun r => .b r) r) := by
  refine ok_of_body hmix m75 rfl ?_
  unfold M_impl_isGrooming at h
  simp only [ZC, A75, V75, body_eq]
  obtain ⟨rZ1, hrZ1, h⟩ := bind_s h
  refine ZF trivial ?_
  refine ZS trivial (w_impl_areLinks _ _ hrZ1) ?_
  refine ZG ?_
  obtain ⟨cZ2, h⟩ | ⟨cZ2, h⟩ := cond_s h
  · obtain ⟨rZ3, hrZ3, h⟩ := bind_s h
    refine ZF cZ2 ?_
    refine ZS cZ2 (w_impl_IsValidTributaries _ _ hrZ3) ?_
    refine ZG ?_
    cases h
    exact ZL cZ2 V75.eq_1
  · cases h
    exact ZL cZ2 V75.eq_1
theorem w_impl_otherEnd (fZ0 : TFiber) (nodeZ0 : Int) {r : Int} (h : M_impl_otherEnd fZ0 nodeZ0 = some r) : Ok Try.prog 114 [.agg [.i fZ0.A, .i fZ0.B, .i fZ0.Length, .i fZ0.Risk], .i nodeZ0] ((fun r => .i r) r) := by
  refine ok_of_body hmix m114 rfl ?_
  unfold M_impl_otherEnd at h
  simp only [ZC, A114, V114, body_eq]
  obtain ⟨cZ1, h⟩ | ⟨cZ1, h⟩ := cond_s h
  · cases h
    exact ZL cZ1 V114.eq_1
  · obtain ⟨cZ2, h⟩ | ⟨cZ2, h⟩ := cond_s h
    · cases h
      exact ZL (ZA cZ1 cZ2) V114.eq_1
    · cases h
      exact ZL (ZA cZ1 cZ2) V114.eq_1
def S_impl_leadsL1 (linksZ0 : List TLink) (freeZ0 : List Int) (atZ0 : Int) (toZ0 : Int) (rateZ0 : Int) (countZ0 : Int) (seenZ0 : Int) (v : Int) : St := ⟨[(0, .lst .o 3 (linksZ0.map (e_TLink .o))), (1, .lst .o 1 (freeZ0.map AV.i)), (2, .i atZ0), (3, .i toZ0), (4, .i rateZ0), (5, .i countZ0), (6, .i seenZ0), (27, .lst .o 3 (linksZ0.map (e_TLink .o))), (28, .i (linksZ0.length : Int)), (29, .i v)], []⟩
def SX_impl_leadsL1 (v : Unit) : St := ⟨[], []⟩
theorem w_impl_leadsL1 (linksZ0 : List TLink) (freeZ0 : List Int) (atZ0 : Int) (toZ0 : Int) (rateZ0 : Int) (countZ0 : Int) (seenZ0 : Int) (rcZ0 : List TLink → List Int → Int → Int → Int → Int → Int → Option (List Int × Bool)) (ihZ0 : ∀ (linksZ0 : List TLink) (freeZ0 : List Int) (atZ0 : Int) (toZ0 : Int) (rateZ0 : Int) (countZ0 : Int) (seenZ0 : Int) {r : List Int × Bool}, rcZ0 linksZ0 freeZ0 atZ0 toZ0 rateZ0 countZ0 seenZ0 = some r → Ok Try.prog 103 [.lst .o 3 (linksZ0.map (e_TLink .o)), .lst .o 1 (freeZ0.map AV.i), .i atZ0, .i toZ0, .i rateZ0, .i countZ0, .i seenZ0] ((fun r => .tup [.lst .u 1 (r.1.map AV.i), .b r.2]) r)) (sZ3 : Int) (o : Int ⊕ (Unit ⊕ (List Int × Bool))) (h : M_impl_leadsL1 linksZ0 freeZ0 atZ0 toZ0 rateZ0 countZ0 seenZ0 rcZ0 sZ3 = some o) : AWP (OkS Try.prog) A103L2 (qL [0, 1, 2, 3, 4, 5, 6, 27, 28, 29] [] (S_impl_leadsL1 linksZ0 freeZ0 atZ0 toZ0 rateZ0 countZ0 seenZ0) (qS (qX 0 [] [] (SX_impl_leadsL1)) (qR V103 (fun r => .tup [.lst .u 1 (r.1.map AV.i), .b r.2]))) o) (S_impl_leadsL1 linksZ0 freeZ0 atZ0 toZ0 rateZ0 countZ0 seenZ0 sZ3) := by
  unfold M_impl_leadsL1 at h
  simp only [ZC, S_impl_leadsL1, A103L2]
  obtain ⟨cZ4, h⟩ | ⟨cZ4, h⟩ := cond_s h
  · obtain ⟨yZ5, hyZ5, h⟩ := bind_s h
    obtain ⟨hyZ5a, hyZ5b⟩ := geti_s hyZ5
    obtain ⟨rZ6, hrZ6, h⟩ := bind_s h
    refine ZF (ZA cZ4 (ZA hyZ5a hyZ5b)) ?_
    refine ZS (ZA cZ4 (ZA hyZ5a hyZ5b)) (w_impl_otherEnd _ _ hrZ6) ?_
    refine ZG ?_
    obtain ⟨oZ11, hoZ11, h⟩ := bind_s h
    try refine ZF (ZA cZ4 (ZA hyZ5a hyZ5b)) ?_
    refine join_rule0 (sh := (fun v => ⟨[(0, .lst .o 3 (linksZ0.map (e_TLink .o))), (1, .lst .o 1 (freeZ0.map AV.i)), (2, .i atZ0), (3, .i toZ0), (4, .i rateZ0), (5, .i countZ0), (6, .i seenZ0), (16, .i sZ3), (18, .i rZ6), (27, .lst .o 3 (linksZ0.map (e_TLink .o))), (28, .i (linksZ0.length : Int)), (29, .i sZ3), (57, .b v)], []⟩)) (s := oZ11) ?_ ?_
    · replace h := hoZ11
      obtain ⟨cZ7, h⟩ | ⟨cZ7, h⟩ := cond_s h
      · cases h
        exact ZL (ZA cZ4 (ZA hyZ5a (ZA hyZ5b cZ7))) trivial
      · obtain ⟨yZ8, hyZ8, h⟩ := bind_s h
        obtain ⟨hyZ8a, hyZ8b⟩ := geti_s hyZ8
        obtain ⟨cZ9, h⟩ | ⟨cZ9, h⟩ := cond_s h
        · cases h
          exact ZL (ZA cZ4 (ZA hyZ5a (ZA hyZ5b (ZA cZ7 (ZA hyZ8a (ZA hyZ8b cZ9)))))) trivial
        · obtain ⟨uZ10, huZ10, h⟩ := bind_s h
          have huZ10g := grd_s huZ10
          cases h
          exact ZL (ZA cZ4 (ZA hyZ5a (ZA hyZ5b (ZA cZ7 (ZA hyZ8a (ZA hyZ8b (ZA cZ9 huZ10g))))))) trivial
    · simp only [ZC, A103R1]
      obtain ⟨cZ12, h⟩ | ⟨cZ12, h⟩ := cond_s h
      · cases h
        exact ZL (ZA cZ4 (ZA hyZ5a (ZA hyZ5b cZ12))) (ZA S_impl_leadsL1.eq_1 SX_impl_leadsL1.eq_1)
      · obtain ⟨uZ13, huZ13, h⟩ := bind_s h
        have huZ13g := grd_s huZ13
        obtain ⟨rZ14, hrZ14, h⟩ := bind_s h
        refine ZF (ZA cZ4 (ZA hyZ5a (ZA hyZ5b (ZA cZ12 huZ13g)))) ?_
        refine ZU (ZA cZ4 (ZA hyZ5a (ZA hyZ5b (ZA cZ12 huZ13g)))) (ihZ0 _ _ _ _ _ _ _ hrZ14) ?_
        refine ZG ?_
        obtain ⟨cZ15, h⟩ | ⟨cZ15, h⟩ := cond_s h
        · obtain ⟨lZ16, hlZ16, h⟩ := bnd_s h
          have eZ17 : Row.arr 1 [(.i sZ3 : AV)] = Row.arr 1 (lZ16.map AV.i) := by rw [← hlZ16]; rfl
          have eZ18 : lZ16.length = 1 := by rw [← hlZ16]; rfl
          have nZ19 : sub (lZ16.map AV.i) 0 1 = lZ16.map AV.i := sub_n _ (by simp [← hlZ16])
          obtain ⟨uZ20, huZ20, h⟩ := bind_s h
          have huZ20g := grd_s huZ20
          obtain ⟨lZ21, hlZ21, h⟩ := bnd_s h
          have eZ22 : lZ16.map AV.i ++ rZ14.1.map AV.i = lZ21.map AV.i := by rw [← hlZ21, List.map_append]
          have eZ23 : 1 + rZ14.1.length = lZ21.length := by simp [← hlZ16, ← hlZ21] <;> omega
          rw [eZ23] at huZ20g
          cases h
          exact ZL (ZA cZ4 (ZA hyZ5a (ZA hyZ5b (ZA cZ12 (ZA huZ13g (ZA cZ15 (ZA eZ17 (ZA eZ18 (ZA nZ19 (ZA huZ20g (ZA eZ22 eZ23))))))))))) (ZA V103.eq_1 (ZA hlZ16.symm hlZ21.symm))
        · cases h
          exact ZL (ZA cZ4 (ZA hyZ5a (ZA hyZ5b (ZA cZ12 (ZA huZ13g cZ15))))) (ZA S_impl_leadsL1.eq_1 SX_impl_leadsL1.eq_1)
  · cases h
    exact ZL cZ4 (ZA S_impl_leadsL1.eq_1 SX_impl_leadsL1.eq_1)
theorem wB_impl_leads (rcZ0 : List TLink → List Int → Int → Int → Int → Int → Int → Option (List Int × Bool)) (ihZ0 : ∀ (linksZ0 : List TLink) (freeZ0 : List Int) (atZ0 : Int) (toZ0 : Int) (rateZ0 : Int) (countZ0 : Int) (seenZ0 : Int) {r : List Int × Bool}, rcZ0 linksZ0 freeZ0 atZ0 toZ0 rateZ0 countZ0 seenZ0 = some r → Ok Try.prog 103 [.lst .o 3 (linksZ0.map (e_TLink .o)), .lst .o 1 (freeZ0.map AV.i), .i atZ0, .i toZ0, .i rateZ0, .i countZ0, .i seenZ0] ((fun r => .tup [.lst .u 1 (r.1.map AV.i), .b r.2]) r)) (linksZ0 : List TLink) (freeZ0 : List Int) (atZ0 : Int) (toZ0 : Int) (rateZ0 : Int) (countZ0 : Int) (seenZ0 : Int) {r : List Int × Bool} (h : M_impl_leads_B rcZ0 linksZ0 freeZ0 atZ0 toZ0 rateZ0 countZ0 seenZ0 = some r) : Ok Try.prog 103 [.lst .o 3 (linksZ0.map (e_TLink .o)), .lst .o 1 (freeZ0.map AV.i), .i atZ0, .i toZ0, .i rateZ0, .i countZ0, .i seenZ0] ((fun r => .tup [.lst .u 1 (r.1.map AV.i), .b r.2]) r) := by
  refine ok_of_body hmix m103 rfl ?_
  unfold M_impl_leads_B at h
  simp only [ZC, A103, V103, body_eq]
  obtain ⟨cZ1, h⟩ | ⟨cZ1, h⟩ := cond_s h
  · cases h
    exact ZL cZ1 V103.eq_1
  · obtain ⟨cZ2, h⟩ | ⟨cZ2, h⟩ := cond_s h
    · cases h
      exact ZL (ZA cZ1 cZ2) V103.eq_1
    · obtain ⟨oZ24, hoZ24, h⟩ := bind_s h
      try refine ZF (ZA cZ1 cZ2) ?_
      refine join_rule (o := oZ24) (blk_rule sideR (loop_rule (w_impl_leadsL1 linksZ0 freeZ0 atZ0 toZ0 rateZ0 countZ0 seenZ0 rcZ0 ihZ0) hoZ24 ?_)) (fun vZ25 hv => ?_) (fun xZ26 hv e τ hne hq => ?_)
      · exact ZK (ZA S_impl_leadsL1.eq_1 SX_impl_leadsL1.eq_1)
      · subst hv
        simp only [] at h
        simp only [ZC, SX_impl_leadsL1, A103R3]
        cases h
        exact ZL (ZA cZ1 cZ2) V103.eq_1
      · subst hv
        simp only [] at h
        obtain ⟨rfl, qZ27⟩ := hq
        cases h
        exact qZ27
theorem w_impl_leads : ∀ (n : Nat) (linksZ0 : List TLink) (freeZ0 : List Int) (atZ0 : Int) (toZ0 : Int) (rateZ0 : Int) (countZ0 : Int) (seenZ0 : Int) {r : List Int × Bool} (_ : M_impl_leads n linksZ0 freeZ0 atZ0 toZ0 rateZ0 countZ0 seenZ0 = some r), Ok Try.prog 103 [.lst .o 3 (linksZ0.map (e_TLink .o)), .lst .o 1 (freeZ0.map AV.i), .i atZ0, .i toZ0, .i rateZ0, .i countZ0, .i seenZ0] ((fun r => .tup [.lst .u 1 (r.1.map AV.i), .b r.2]) r)
  | 0, linksZ0, freeZ0, atZ0, toZ0, rateZ0, countZ0, seenZ0, _, h => by cases h
  | n + 1, linksZ0, freeZ0, atZ0, toZ0, rateZ0, countZ0, seenZ0, _, h => wB_impl_leads (M_impl_leads n) (w_impl_leads n) linksZ0 freeZ0 atZ0 toZ0 rateZ0 countZ0 seenZ0 h
def S_impl_routedL1 (linksZ0 : List TLink) (freeZ0 : List Int) (tZ0 : TTributary) (v : Int) : St := ⟨[(0, .lst .o 3 (linksZ0.map (e_TLink .o))), (1, .lst .o 1 (freeZ0.map AV.i)), (5, .pt 5 0 0), (8, .i v)], [(5, .var (.agg [.i tZ0.From, .i tZ0.To, .i tZ0.Rate]))]⟩
def SX_impl_routedL1 (v : Unit) : St := ⟨[], []⟩
theorem w_impl_routedL1 (linksZ0 : List TLink) (freeZ0 : List Int) (tZ0 : TTributary) (sZ1 : Int) (o : Int ⊕ (Unit ⊕ (List Int × Bool))) (h : M_impl_routedL1 linksZ0 freeZ0 tZ0 sZ1 = some o) : AWP (OkS Try.prog) A73L1 (qL [0, 1, 5, 8] [5] (S_impl_routedL1 linksZ0 freeZ0 tZ0) (qS (qX 0 [] [] (SX_impl_routedL1)) (qR V73 (fun r => .tup [.lst .u 1 (r.1.map AV.i), .b r.2]))) o) (S_impl_routedL1 linksZ0 freeZ0 tZ0 sZ1) := by
  unfold M_impl_routedL1 at h
  simp only [ZC, S_impl_routedL1, A73L1]
  obtain ⟨cZ2, h⟩ | ⟨cZ2, h⟩ := cond_s h
  · obtain ⟨uZ3, huZ3, h⟩ := bind_s h
    have huZ3g := grd_s huZ3
    obtain ⟨rZ4, hrZ4, h⟩ := bind_s h
    refine ZF (ZA cZ2 huZ3g) ?_
    refine ZU (ZA cZ2 huZ3g) (w_impl_leads N0 _ _ _ _ _ _ _ hrZ4) ?_
    refine ZG ?_
    obtain ⟨cZ5, h⟩ | ⟨cZ5, h⟩ := cond_s h
    · cases h
      exact ZL (ZA cZ2 (ZA huZ3g cZ5)) V73.eq_1
    · cases h
      exact ZL (ZA cZ2 (ZA huZ3g cZ5)) (ZA S_impl_routedL1.eq_1 SX_impl_routedL1.eq_1)
  · cases h
    exact ZL cZ2 (ZA S_impl_routedL1.eq_1 SX_impl_routedL1.eq_1)
theorem w_impl_routed (linksZ0 : List TLink) (freeZ0 : List Int) (tZ0 : TTributary) {r : List Int × Bool} (h : M_impl_routed linksZ0 freeZ0 tZ0 = some r) : Ok Try.prog 73 [.lst .o 3 (linksZ0.map (e_TLink .o)), .lst .o 1 (freeZ0.map AV.i), .agg [.i tZ0.From, .i tZ0.To, .i tZ0.Rate]] ((fun r => .tup [.lst .u 1 (r.1.map AV.i), .b r.2]) r) := by
  refine ok_of_body hmix m73 rfl ?_
  unfold M_impl_routed at h
  simp only [ZC, A73, V73, body_eq]
  obtain ⟨oZ6, hoZ6, h⟩ := bind_s h
  try refine ZF trivial ?_
  refine join_rule (o := oZ6) (blk_rule sideR (loop_rule (w_impl_routedL1 linksZ0 freeZ0 tZ0) hoZ6 ?_)) (fun vZ7 hv => ?_) (fun xZ8 hv e τ hne hq => ?_)
  · exact ZK (ZA S_impl_routedL1.eq_1 SX_impl_routedL1.eq_1)
  · subst hv
    simp only [] at h
    simp only [ZC, SX_impl_routedL1, A73R2]
    cases h
    exact ZL trivial V73.eq_1
  · subst hv
    simp only [] at h
    obtain ⟨rfl, qZ9⟩ := hq
    cases h
    exact qZ9
def S_impl_groomedL1 (linksZ0 : List TLink) (listZ0 : List TTributary) (v : Int × List Int) : St := ⟨[(0, .lst .o 3 (linksZ0.map (e_TLink .o))), (1, .lst .o 3 (listZ0.map (e_TTributary .o))), (7, .sl 7 0 0), (8, .sl 8 0 v.2.length), (9, .i 0), (20, .lst .o 3 (linksZ0.map (e_TLink .o))), (21, .i (linksZ0.length : Int)), (22, .i v.1)], [(7, .arr 1 []), (8, .arr 1 (v.2.map AV.i))]⟩
def SX_impl_groomedL1 (linksZ0 : List TLink) (listZ0 : List TTributary) (v : List Int) : St := ⟨[(0, .lst .o 3 (linksZ0.map (e_TLink .o))), (1, .lst .o 3 (listZ0.map (e_TTributary .o))), (7, .sl 7 0 0), (8, .sl 8 0 v.length), (9, .i 0)], [(7, .arr 1 []), (8, .arr 1 (v.map AV.i))]⟩
theorem w_impl_groomedL1 (linksZ0 : List TLink) (listZ0 : List TTributary) (sZ1 : Int × List Int) (o : (Int × List Int) ⊕ (List Int)) (h : M_impl_groomedL1 linksZ0 sZ1 = some o) : AWP (OkS Try.prog) A76L1 (qL [0, 1, 7, 8, 9, 20, 21, 22] [7, 8] (S_impl_groomedL1 linksZ0 listZ0) (qX 0 [0, 1, 7, 8, 9] [7, 8] (SX_impl_groomedL1 linksZ0 listZ0)) o) (S_impl_groomedL1 linksZ0 listZ0 sZ1) := by
  unfold M_impl_groomedL1 at h
  simp only [ZC, S_impl_groomedL1, A76L1]
  obtain ⟨cZ2, h⟩ | ⟨cZ2, h⟩ := cond_s h
  · obtain ⟨yZ3, hyZ3, h⟩ := bind_s h
    obtain ⟨hyZ3a, hyZ3b⟩ := geti_s hyZ3
    obtain ⟨lZ4, hlZ4, h⟩ := bnd_s h
    have eZ5 : Row.arr 1 [(.i yZ3.Capacity : AV)] = Row.arr 1 (lZ4.map AV.i) := by rw [← hlZ4]; rfl
    have eZ6 : lZ4.length = 1 := by rw [← hlZ4]; rfl
    obtain ⟨uZ7, huZ7, h⟩ := bind_s h
    have huZ7g := grd_s huZ7
    obtain ⟨lZ8, hlZ8, h⟩ := bnd_s h
    have eZ9 : sZ1.2.map AV.i ++ lZ4.map AV.i = lZ8.map AV.i := by rw [← hlZ8, List.map_append]
    have eZ10 : sZ1.2.length + 1 = lZ8.length := by simp [← hlZ4, ← hlZ8] <;> omega
    rw [eZ10] at huZ7g
    cases h
    exact ZL (ZA cZ2 (ZA hyZ3a (ZA hyZ3b (ZA eZ5 (ZA eZ6 (ZA huZ7g (ZA eZ9 eZ10))))))) (ZA S_impl_groomedL1.eq_1 (ZA SX_impl_groomedL1.eq_1 (ZA hlZ4.symm hlZ8.symm)))
  · cases h
    exact ZL cZ2 (ZA S_impl_groomedL1.eq_1 SX_impl_groomedL1.eq_1)
def S_impl_groomedL3 (linksZ0 : List TLink) (listZ0 : List TTributary) (sZ12 : Int × Int × List (List Int) × List Int) (yZ14 : TTributary) (rZ15 : List Int × Bool) (oZ17 : Int) (v : Int × List Int) : St := ⟨[(0, .lst .o 3 (linksZ0.map (e_TLink .o))), (7, .sl 7 0 sZ12.2.2.1.length), (8, .sl 8 0 v.2.length), (9, .i oZ17), (13, .pt 13 0 0), (14, .sl 14 0 rZ15.1.length), (32, .lst .o 3 (listZ0.map (e_TTributary .o))), (33, .i (listZ0.length : Int)), (34, .i sZ12.2.1), (51, .sl 14 0 rZ15.1.length), (52, .i (rZ15.1.length : Int)), (53, .i v.1)], [(7, .arr 1 (sZ12.2.2.1.map (e_Li .u))), (8, .arr 1 (v.2.map AV.i)), (13, .var (.agg [.i yZ14.From, .i yZ14.To, .i yZ14.Rate])), (14, .arr 1 (rZ15.1.map AV.i))]⟩
def SX_impl_groomedL3 (linksZ0 : List TLink) (listZ0 : List TTributary) (sZ12 : Int × Int × List (List Int) × List Int) (rZ15 : List Int × Bool) (oZ17 : Int) (v : List Int) : St := ⟨[(0, .lst .o 3 (linksZ0.map (e_TLink .o))), (7, .sl 7 0 sZ12.2.2.1.length), (8, .sl 8 0 v.length), (9, .i oZ17), (14, .sl 14 0 rZ15.1.length), (32, .lst .o 3 (listZ0.map (e_TTributary .o))), (33, .i (listZ0.length : Int)), (34, .i sZ12.2.1)], [(7, .arr 1 (sZ12.2.2.1.map (e_Li .u))), (8, .arr 1 (v.map AV.i)), (14, .arr 1 (rZ15.1.map AV.i))]⟩
theorem w_impl_groomedL3 (linksZ0 : List TLink) (listZ0 : List TTributary) (sZ12 : Int × Int × List (List Int) × List Int) (yZ14 : TTributary) (rZ15 : List Int × Bool) (oZ17 : Int) (sZ18 : Int × List Int) (o : (Int × List Int) ⊕ (List Int)) (h : M_impl_groomedL3 yZ14 rZ15 sZ18 = some o) : AWP (OkS Try.prog) A76L4 (qL [0, 7, 8, 9, 13, 14, 32, 33, 34, 51, 52, 53] [7, 8, 13, 14] (S_impl_groomedL3 linksZ0 listZ0 sZ12 yZ14 rZ15 oZ17) (qX 4 [0, 7, 8, 9, 14, 32, 33, 34] [7, 8, 14] (SX_impl_groomedL3 linksZ0 listZ0 sZ12 rZ15 oZ17)) o) (S_impl_groomedL3 linksZ0 listZ0 sZ12 yZ14 rZ15 oZ17 sZ18) := by
  unfold M_impl_groomedL3 at h
  simp only [ZC, S_impl_groomedL3, A76L4]
  obtain ⟨cZ19, h⟩ | ⟨cZ19, h⟩ := cond_s h
  · obtain ⟨kZ20, hkZ20, h⟩ := bind_s h
    obtain ⟨hkZ20a, hkZ20b⟩ := grd_s hkZ20
    obtain ⟨yZ21, hyZ21, h⟩ := bind_s h
    obtain ⟨kZ22, hkZ22, h⟩ := bind_s h
    obtain ⟨hkZ22a, hkZ22b⟩ := grd_s hkZ22
    obtain ⟨yZ23, hyZ23, h⟩ := bind_s h
    obtain ⟨lZ24, hlZ24, h⟩ := bnd_s h
    have eZ25 : (sZ18.2.map AV.i).set (Int.toNat yZ21) (.i (IntKind.wrap .i64 (yZ23 - yZ14.Rate))) = lZ24.map AV.i := by rw [← hlZ24, List.map_set]
    cases h
    exact ZL (ZA cZ19 (ZA hkZ20a (ZA hkZ20b (ZA hyZ21 (ZA hkZ22a (ZA hkZ22b (ZA hyZ23 eZ25))))))) (ZA S_impl_groomedL3.eq_1 (ZA SX_impl_groomedL3.eq_1 hlZ24.symm))
  · cases h
    exact ZL cZ19 (ZA S_impl_groomedL3.eq_1 SX_impl_groomedL3.eq_1)
def S_impl_groomedL2 (linksZ0 : List TLink) (listZ0 : List TTributary) (v : Int × Int × List (List Int) × List Int) : St := ⟨[(0, .lst .o 3 (linksZ0.map (e_TLink .o))), (7, .sl 7 0 v.2.2.1.length), (8, .sl 8 0 v.2.2.2.length), (9, .i v.1), (32, .lst .o 3 (listZ0.map (e_TTributary .o))), (33, .i (listZ0.length : Int)), (34, .i v.2.1)], [(7, .arr 1 (v.2.2.1.map (e_Li .u))), (8, .arr 1 (v.2.2.2.map AV.i))]⟩
def SX_impl_groomedL2 (v : Int × List (List Int) × List Int) : St := ⟨[(7, .sl 7 0 v.2.1.length), (8, .sl 8 0 v.2.2.length), (9, .i v.1)], [(7, .arr 1 (v.2.1.map (e_Li .u))), (8, .arr 1 (v.2.2.map AV.i))]⟩
theorem w_impl_groomedL2 (linksZ0 : List TLink) (listZ0 : List TTributary) (sZ12 : Int × Int × List (List Int) × List Int) (o : (Int × Int × List (List Int) × List Int) ⊕ (Int × List (List Int) × List Int)) (h : M_impl_groomedL2 linksZ0 listZ0 sZ12 = some o) : AWP (OkS Try.prog) A76L6 (qL [0, 7, 8, 9, 32, 33, 34] [7, 8] (S_impl_groomedL2 linksZ0 listZ0) (qX 2 [7, 8, 9] [7, 8] (SX_impl_groomedL2)) o) (S_impl_groomedL2 linksZ0 listZ0 sZ12) := by
  unfold M_impl_groomedL2 at h
  simp only [ZC, S_impl_groomedL2, A76L6]
  obtain ⟨cZ13, h⟩ | ⟨cZ13, h⟩ := cond_s h
  · obtain ⟨yZ14, hyZ14, h⟩ := bind_s h
    obtain ⟨hyZ14a, hyZ14b⟩ := geti_s hyZ14
    obtain ⟨rZ15, hrZ15, h⟩ := bind_s h
    refine ZF (ZA cZ13 (ZA hyZ14a hyZ14b)) ?_
    refine ZU (ZA cZ13 (ZA hyZ14a hyZ14b)) (w_impl_routed _ _ _ hrZ15) ?_
    refine ZG ?_
    obtain ⟨oZ17, hoZ17, h⟩ := bind_s h
    try refine ZF (ZA cZ13 (ZA hyZ14a hyZ14b)) ?_
    refine join_rule0 (sh := (fun v => ⟨[(0, .lst .o 3 (linksZ0.map (e_TLink .o))), (7, .sl 7 0 sZ12.2.2.1.length), (8, .sl 8 0 sZ12.2.2.2.length), (9, .i v), (13, .pt 13 0 0), (14, .sl 14 0 rZ15.1.length), (32, .lst .o 3 (listZ0.map (e_TTributary .o))), (33, .i (listZ0.length : Int)), (34, .i sZ12.2.1)], [(7, .arr 1 (sZ12.2.2.1.map (e_Li .u))), (8, .arr 1 (sZ12.2.2.2.map AV.i)), (13, .var (.agg [.i yZ14.From, .i yZ14.To, .i yZ14.Rate])), (14, .arr 1 (rZ15.1.map AV.i))]⟩)) (s := oZ17) ?_ ?_
    · replace h := hoZ17
      obtain ⟨cZ16, h⟩ | ⟨cZ16, h⟩ := cond_s h
      · cases h
        exact ZL (ZA cZ13 (ZA hyZ14a (ZA hyZ14b cZ16))) trivial
      · cases h
        exact ZL (ZA cZ13 (ZA hyZ14a (ZA hyZ14b cZ16))) trivial
    · simp only [ZC, A76R3]
      obtain ⟨oZ26, hoZ26, h⟩ := bind_s h
      try refine ZF (ZA cZ13 (ZA hyZ14a hyZ14b)) ?_
      refine join_rule0 (blk_rule0 (loop_rule (w_impl_groomedL3 linksZ0 listZ0 sZ12 yZ14 rZ15 oZ17) hoZ26 ?_)) ?_
      · exact ZK (ZA S_impl_groomedL3.eq_1 SX_impl_groomedL3.eq_1)
      · simp only [ZC, SX_impl_groomedL3, A76R5]
        obtain ⟨lZ27, hlZ27, h⟩ := bnd_s h
        have eZ28 : Row.arr 1 [(.lst .u 1 (rZ15.1.map AV.i) : AV)] = Row.arr 1 (lZ27.map (e_Li .u)) := by rw [← hlZ27]; rfl
        have eZ29 : lZ27.length = 1 := by rw [← hlZ27]; rfl
        obtain ⟨uZ30, huZ30, h⟩ := bind_s h
        have huZ30g := grd_s huZ30
        obtain ⟨lZ31, hlZ31, h⟩ := bnd_s h
        have eZ32 : sZ12.2.2.1.map (e_Li .u) ++ lZ27.map (e_Li .u) = lZ31.map (e_Li .u) := by rw [← hlZ31, List.map_append]
        have eZ33 : sZ12.2.2.1.length + 1 = lZ31.length := by simp [← hlZ27, ← hlZ31] <;> omega
        rw [eZ33] at huZ30g
        cases h
        exact ZL (ZA cZ13 (ZA hyZ14a (ZA hyZ14b (ZA eZ28 (ZA eZ29 (ZA huZ30g (ZA eZ32 eZ33))))))) (ZA S_impl_groomedL2.eq_1 (ZA SX_impl_groomedL2.eq_1 (ZA hlZ27.symm hlZ31.symm)))
  · cases h
    exact ZL cZ13 (ZA S_impl_groomedL2.eq_1 SX_impl_groomedL2.eq_1)
theorem w_impl_groomed (linksZ0 : List TLink) (listZ0 : List TTributary) {r : List (List Int) × List Int × Int} (h : M_impl_groomed linksZ0 listZ0 = some r) : Ok Try.prog 76 [.lst .o 3 (linksZ0.map (e_TLink .o)), .lst .o 3 (listZ0.map (e_TTributary .o))] ((fun r => .tup [.lst .u 1 (r.1.map (e_Li .u)), .lst .u 1 (r.2.1.map AV.i), .i r.2.2]) r) := by
  refine ok_of_body hmix m76 rfl ?_
  unfold M_impl_groomed at h
  simp only [ZC, A76, V76, body_eq]
  obtain ⟨oZ11, hoZ11, h⟩ := bind_s h
  try refine ZF trivial ?_
  refine join_rule0 (blk_rule0 (loop_rule (w_impl_groomedL1 linksZ0 listZ0) hoZ11 ?_)) ?_
  · exact ZK (ZA S_impl_groomedL1.eq_1 SX_impl_groomedL1.eq_1)
  · simp only [ZC, SX_impl_groomedL1, A76R2]
    obtain ⟨oZ34, hoZ34, h⟩ := bind_s h
    try refine ZF trivial ?_
    refine join_rule0 (blk_rule0 (loop_rule (w_impl_groomedL2 linksZ0 listZ0) hoZ34 ?_)) ?_
    · exact ZK (ZA S_impl_groomedL2.eq_1 SX_impl_groomedL2.eq_1)
    · simp only [ZC, SX_impl_groomedL2, A76R7]
      cases h
      exact ZL trivial V76.eq_1
theorem w_impl_GroomAll (linksZ0 : List TLink) (nodesZ0 : Int) (listZ0 : List TTributary) {r : List (List Int) × List Int × Bool} (h : M_impl_GroomAll linksZ0 nodesZ0 listZ0 = some r) : Ok Try.prog 45 [.lst .o 3 (linksZ0.map (e_TLink .o)), .i nodesZ0, .lst .o 3 (listZ0.map (e_TTributary .o))] ((fun r => .tup [.lst .u 1 (r.1.map (e_Li .u)), .lst .u 1 (r.2.1.map AV.i), .b r.2.2]) r) := by
  refine ok_of_body hmix m45 rfl ?_
  unfold M_impl_GroomAll at h
  simp only [ZC, A45, V45, body_eq]
  obtain ⟨rZ1, hrZ1, h⟩ := bind_s h
  refine ZF trivial ?_
  refine ZS trivial (w_impl_isGrooming _ _ _ hrZ1) ?_
  refine ZG ?_
  obtain ⟨cZ2, h⟩ | ⟨cZ2, h⟩ := cond_s h
  · cases h
    exact ZL cZ2 V45.eq_1
  · obtain ⟨rZ3, hrZ3, h⟩ := bind_s h
    refine ZF cZ2 ?_
    refine ZU cZ2 (w_impl_groomed _ _ hrZ3) ?_
    refine ZG ?_
    cases h
    exact ZL cZ2 V45.eq_1
theorem w_spec_l1In (xZ0 : Int) (aZ0 : Int) (bZ0 : Int) {r : Bool} (h : M_spec_l1In xZ0 aZ0 bZ0 = some r) : Ok Try.prog 67 [.i xZ0, .i aZ0, .i bZ0] ((fun r => .b r) r) := by
  refine ok_of_body hmix m67 rfl ?_
  unfold M_spec_l1In at h
  simp only [ZC, A67, V67, body_eq]
  obtain ⟨cZ1, h⟩ | ⟨cZ1, h⟩ := cond_s h
  · cases h
    exact ZL cZ1 V67.eq_1
  · cases h
    exact ZL cZ1 V67.eq_1
theorem w_spec_l18Pair (aZ0 : Int) (bZ0 : Int) (nodesZ0 : Int) {r : Bool} (h : M_spec_l18Pair aZ0 bZ0 nodesZ0 = some r) : Ok Try.prog 95 [.i aZ0, .i bZ0, .i nodesZ0] ((fun r => .b r) r) := by
  refine ok_of_body hmix m95 rfl ?_
  unfold M_spec_l18Pair at h
  simp only [ZC, A95, V95, body_eq]
  obtain ⟨rZ1, hrZ1, h⟩ := bind_s h
  refine ZF trivial ?_
  refine ZS trivial (w_spec_l1In _ _ _ hrZ1) ?_
  refine ZG ?_
  obtain ⟨cZ2, h⟩ | ⟨cZ2, h⟩ := cond_s h
  · obtain ⟨rZ3, hrZ3, h⟩ := bind_s h
    refine ZF cZ2 ?_
    refine ZS cZ2 (w_spec_l1In _ _ _ hrZ3) ?_
    refine ZG ?_
    obtain ⟨cZ4, h⟩ | ⟨cZ4, h⟩ := cond_s h
    · cases h
      exact ZL (ZA cZ2 cZ4) V95.eq_1
    · cases h
      exact ZL (ZA cZ2 cZ4) V95.eq_1
  · cases h
    exact ZL cZ2 V95.eq_1
def S_spec_l18LinksL1 (linksZ0 : List TLink) (nodesZ0 : Int) (v : Int) : St := ⟨[(0, .lst .o 3 (linksZ0.map (e_TLink .o))), (1, .i nodesZ0), (5, .i v)], []⟩
def SX_spec_l18LinksL1 (linksZ0 : List TLink) (nodesZ0 : Int) (v : Unit) : St := ⟨[(0, .lst .o 3 (linksZ0.map (e_TLink .o))), (1, .i nodesZ0)], []⟩
theorem w_spec_l18LinksL1 (linksZ0 : List TLink) (nodesZ0 : Int) (sZ1 : Int) (o : Int ⊕ (Unit ⊕ Bool)) (h : M_spec_l18LinksL1 linksZ0 nodesZ0 sZ1 = some o) : AWP (OkS Try.prog) A66L3 (qL [0, 1, 5] [] (S_spec_l18LinksL1 linksZ0 nodesZ0) (qS (qX 0 [0, 1] [] (SX_spec_l18LinksL1 linksZ0 nodesZ0)) (qR V66 (fun r => .b r))) o) (S_spec_l18LinksL1 linksZ0 nodesZ0 sZ1) := by
  unfold M_spec_l18LinksL1 at h
  simp only [ZC, S_spec_l18LinksL1, A66L3]
  obtain ⟨oZ3, hoZ3, h⟩ := bind_s h
  try refine ZF trivial ?_
  refine join_rule0 (sh := (fun v => ⟨[(0, .lst .o 3 (linksZ0.map (e_TLink .o))), (1, .i nodesZ0), (5, .i sZ1), (13, .b v)], []⟩)) (s := oZ3) ?_ ?_
  · replace h := hoZ3
    obtain ⟨cZ2, h⟩ | ⟨cZ2, h⟩ := cond_s h
    · cases h
      exact ZL cZ2 trivial
    · cases h
      exact ZL cZ2 trivial
  · simp only [ZC, A66R1]
    obtain ⟨cZ4, h⟩ | ⟨cZ4, h⟩ := cond_s h
    · obtain ⟨oZ9, hoZ9, h⟩ := bind_s h
      try refine ZF cZ4 ?_
      refine join_rule0 (sh := (fun v => ⟨[(0, .lst .o 3 (linksZ0.map (e_TLink .o))), (1, .i nodesZ0), (5, .i sZ1), (37, .b v)], []⟩)) (s := oZ9) ?_ ?_
      · replace h := hoZ9
        obtain ⟨yZ5, hyZ5, h⟩ := bind_s h
        obtain ⟨hyZ5a, hyZ5b⟩ := geti_s hyZ5
        obtain ⟨rZ6, hrZ6, h⟩ := bind_s h
        refine ZF (ZA cZ4 (ZA hyZ5a hyZ5b)) ?_
        refine ZS (ZA cZ4 (ZA hyZ5a hyZ5b)) (w_spec_l18Pair _ _ _ hrZ6) ?_
        refine ZG ?_
        obtain ⟨cZ7, h⟩ | ⟨cZ7, h⟩ := cond_s h
        · cases h
          exact ZL (ZA cZ4 (ZA hyZ5a (ZA hyZ5b cZ7))) trivial
        · obtain ⟨rZ8, hrZ8, h⟩ := bind_s h
          refine ZF (ZA cZ4 (ZA hyZ5a (ZA hyZ5b cZ7))) ?_
          refine ZS (ZA cZ4 (ZA hyZ5a (ZA hyZ5b cZ7))) (w_spec_l1In _ _ _ hrZ8) ?_
          refine ZG ?_
          cases h
          exact ZL (ZA cZ4 (ZA hyZ5a (ZA hyZ5b cZ7))) trivial
      · simp only [ZC, A66R2]
        obtain ⟨cZ10, h⟩ | ⟨cZ10, h⟩ := cond_s h
        · cases h
          exact ZL (ZA cZ4 cZ10) V66.eq_1
        · cases h
          exact ZL (ZA cZ4 cZ10) (ZA S_spec_l18LinksL1.eq_1 SX_spec_l18LinksL1.eq_1)
    · cases h
      exact ZL cZ4 (ZA S_spec_l18LinksL1.eq_1 SX_spec_l18LinksL1.eq_1)
theorem w_spec_l18Links (linksZ0 : List TLink) (nodesZ0 : Int) {r : Bool} (h : M_spec_l18Links linksZ0 nodesZ0 = some r) : Ok Try.prog 66 [.lst .o 3 (linksZ0.map (e_TLink .o)), .i nodesZ0] ((fun r => .b r) r) := by
  refine ok_of_body hmix m66 rfl ?_
  unfold M_spec_l18Links at h
  simp only [ZC, A66, V66, body_eq]
  obtain ⟨oZ11, hoZ11, h⟩ := bind_s h
  try refine ZF trivial ?_
  refine join_rule (o := oZ11) (blk_rule sideR (loop_rule (w_spec_l18LinksL1 linksZ0 nodesZ0) hoZ11 ?_)) (fun vZ12 hv => ?_) (fun xZ13 hv e τ hne hq => ?_)
  · exact ZK (ZA S_spec_l18LinksL1.eq_1 SX_spec_l18LinksL1.eq_1)
  · subst hv
    simp only [] at h
    simp only [ZC, SX_spec_l18LinksL1, A66R4]
    obtain ⟨rZ14, hrZ14, h⟩ := bind_s h
    refine ZF trivial ?_
    refine ZS trivial (w_spec_l1In _ _ _ hrZ14) ?_
    refine ZG ?_
    obtain ⟨cZ15, h⟩ | ⟨cZ15, h⟩ := cond_s h
    · cases h
      exact ZL cZ15 V66.eq_1
    · cases h
      exact ZL cZ15 V66.eq_1
  · subst hv
    simp only [] at h
    obtain ⟨rfl, qZ16⟩ := hq
    cases h
    exact qZ16
def S_spec_l18GoodL1 (listZ0 : List TTributary) (nodesZ0 : Int) (v : Int) : St := ⟨[(0, .lst .o 3 (listZ0.map (e_TTributary .o))), (1, .i nodesZ0), (5, .i v)], []⟩
def SX_spec_l18GoodL1 (listZ0 : List TTributary) (nodesZ0 : Int) (v : Unit) : St := ⟨[(0, .lst .o 3 (listZ0.map (e_TTributary .o))), (1, .i nodesZ0)], []⟩
theorem w_spec_l18GoodL1 (listZ0 : List TTributary) (nodesZ0 : Int) (sZ1 : Int) (o : Int ⊕ (Unit ⊕ Bool)) (h : M_spec_l18GoodL1 listZ0 nodesZ0 sZ1 = some o) : AWP (OkS Try.prog) A54L3 (qL [0, 1, 5] [] (S_spec_l18GoodL1 listZ0 nodesZ0) (qS (qX 0 [0, 1] [] (SX_spec_l18GoodL1 listZ0 nodesZ0)) (qR V54 (fun r => .b r))) o) (S_spec_l18GoodL1 listZ0 nodesZ0 sZ1) := by
  unfold M_spec_l18GoodL1 at h
  simp only [ZC, S_spec_l18GoodL1, A54L3]
  obtain ⟨oZ3, hoZ3, h⟩ := bind_s h
  try refine ZF trivial ?_
  refine join_rule0 (sh := (fun v => ⟨[(0, .lst .o 3 (listZ0.map (e_TTributary .o))), (1, .i nodesZ0), (5, .i sZ1), (13, .b v)], []⟩)) (s := oZ3) ?_ ?_
  · replace h := hoZ3
    obtain ⟨cZ2, h⟩ | ⟨cZ2, h⟩ := cond_s h
    · cases h
      exact ZL cZ2 trivial
    · cases h
      exact ZL cZ2 trivial
  · simp only [ZC, A54R1]
    obtain ⟨cZ4, h⟩ | ⟨cZ4, h⟩ := cond_s h
    · obtain ⟨oZ9, hoZ9, h⟩ := bind_s h
      try refine ZF cZ4 ?_
      refine join_rule0 (sh := (fun v => ⟨[(0, .lst .o 3 (listZ0.map (e_TTributary .o))), (1, .i nodesZ0), (5, .i sZ1), (37, .b v)], []⟩)) (s := oZ9) ?_ ?_
      · replace h := hoZ9
        obtain ⟨yZ5, hyZ5, h⟩ := bind_s h
        obtain ⟨hyZ5a, hyZ5b⟩ := geti_s hyZ5
        obtain ⟨rZ6, hrZ6, h⟩ := bind_s h
        refine ZF (ZA cZ4 (ZA hyZ5a hyZ5b)) ?_
        refine ZS (ZA cZ4 (ZA hyZ5a hyZ5b)) (w_spec_l18Pair _ _ _ hrZ6) ?_
        refine ZG ?_
        obtain ⟨cZ7, h⟩ | ⟨cZ7, h⟩ := cond_s h
        · cases h
          exact ZL (ZA cZ4 (ZA hyZ5a (ZA hyZ5b cZ7))) trivial
        · obtain ⟨rZ8, hrZ8, h⟩ := bind_s h
          refine ZF (ZA cZ4 (ZA hyZ5a (ZA hyZ5b cZ7))) ?_
          refine ZS (ZA cZ4 (ZA hyZ5a (ZA hyZ5b cZ7))) (w_spec_l1In _ _ _ hrZ8) ?_
          refine ZG ?_
          cases h
          exact ZL (ZA cZ4 (ZA hyZ5a (ZA hyZ5b cZ7))) trivial
      · simp only [ZC, A54R2]
        obtain ⟨cZ10, h⟩ | ⟨cZ10, h⟩ := cond_s h
        · cases h
          exact ZL (ZA cZ4 cZ10) V54.eq_1
        · cases h
          exact ZL (ZA cZ4 cZ10) (ZA S_spec_l18GoodL1.eq_1 SX_spec_l18GoodL1.eq_1)
    · cases h
      exact ZL cZ4 (ZA S_spec_l18GoodL1.eq_1 SX_spec_l18GoodL1.eq_1)
theorem w_spec_l18Good (listZ0 : List TTributary) (nodesZ0 : Int) {r : Bool} (h : M_spec_l18Good listZ0 nodesZ0 = some r) : Ok Try.prog 54 [.lst .o 3 (listZ0.map (e_TTributary .o)), .i nodesZ0] ((fun r => .b r) r) := by
  refine ok_of_body hmix m54 rfl ?_
  unfold M_spec_l18Good at h
  simp only [ZC, A54, V54, body_eq]
  obtain ⟨oZ11, hoZ11, h⟩ := bind_s h
  try refine ZF trivial ?_
  refine join_rule (o := oZ11) (blk_rule sideR (loop_rule (w_spec_l18GoodL1 listZ0 nodesZ0) hoZ11 ?_)) (fun vZ12 hv => ?_) (fun xZ13 hv e τ hne hq => ?_)
  · exact ZK (ZA S_spec_l18GoodL1.eq_1 SX_spec_l18GoodL1.eq_1)
  · subst hv
    simp only [] at h
    simp only [ZC, SX_spec_l18GoodL1, A54R4]
    obtain ⟨rZ14, hrZ14, h⟩ := bind_s h
    refine ZF trivial ?_
    refine ZS trivial (w_spec_l1In _ _ _ hrZ14) ?_
    refine ZG ?_
    obtain ⟨cZ15, h⟩ | ⟨cZ15, h⟩ := cond_s h
    · cases h
      exact ZL cZ15 V54.eq_1
    · cases h
      exact ZL cZ15 V54.eq_1
  · subst hv
    simp only [] at h
    obtain ⟨rfl, qZ16⟩ := hq
    cases h
    exact qZ16
def S_spec_l1HasL1 (lZ0 : List Int) (nZ0 : Int) (v : Int) : St := ⟨[(0, .lst .o 1 (lZ0.map AV.i)), (1, .i nZ0), (5, .i v)], []⟩
def SX_spec_l1HasL1 (v : Unit) : St := ⟨[], []⟩
theorem w_spec_l1HasL1 (lZ0 : List Int) (nZ0 : Int) (sZ1 : Int) (o : Int ⊕ (Unit ⊕ Bool)) (h : M_spec_l1HasL1 lZ0 nZ0 sZ1 = some o) : AWP (OkS Try.prog) A79L1 (qL [0, 1, 5] [] (S_spec_l1HasL1 lZ0 nZ0) (qS (qX 0 [] [] (SX_spec_l1HasL1)) (qR V79 (fun r => .b r))) o) (S_spec_l1HasL1 lZ0 nZ0 sZ1) := by
  unfold M_spec_l1HasL1 at h
  simp only [ZC, S_spec_l1HasL1, A79L1]
  obtain ⟨cZ2, h⟩ | ⟨cZ2, h⟩ := cond_s h
  · obtain ⟨yZ3, hyZ3, h⟩ := bind_s h
    obtain ⟨hyZ3a, hyZ3b⟩ := geti_s hyZ3
    obtain ⟨cZ4, h⟩ | ⟨cZ4, h⟩ := cond_s h
    · cases h
      exact ZL (ZA cZ2 (ZA hyZ3a (ZA hyZ3b cZ4))) V79.eq_1
    · cases h
      exact ZL (ZA cZ2 (ZA hyZ3a (ZA hyZ3b cZ4))) (ZA S_spec_l1HasL1.eq_1 SX_spec_l1HasL1.eq_1)
  · cases h
    exact ZL cZ2 (ZA S_spec_l1HasL1.eq_1 SX_spec_l1HasL1.eq_1)
theorem w_spec_l1Has (lZ0 : List Int) (nZ0 : Int) {r : Bool} (h : M_spec_l1Has lZ0 nZ0 = some r) : Ok Try.prog 79 [.lst .o 1 (lZ0.map AV.i), .i nZ0] ((fun r => .b r) r) := by
  refine ok_of_body hmix m79 rfl ?_
  unfold M_spec_l1Has at h
  simp only [ZC, A79, V79, body_eq]
  obtain ⟨oZ5, hoZ5, h⟩ := bind_s h
  try refine ZF trivial ?_
  refine join_rule (o := oZ5) (blk_rule sideR (loop_rule (w_spec_l1HasL1 lZ0 nZ0) hoZ5 ?_)) (fun vZ6 hv => ?_) (fun xZ7 hv e τ hne hq => ?_)
  · exact ZK (ZA S_spec_l1HasL1.eq_1 SX_spec_l1HasL1.eq_1)
  · subst hv
    simp only [] at h
    simp only [ZC, SX_spec_l1HasL1, A79R2]
    cases h
    exact ZL trivial V79.eq_1
  · subst hv
    simp only [] at h
    obtain ⟨rfl, qZ8⟩ := hq
    cases h
    exact qZ8
theorem w_spec_l1Own (lZ0 : List Int) {r : List Int} (h : M_spec_l1Own lZ0 = some r) : Ok Try.prog 112 [.lst .o 1 (lZ0.map AV.i)] ((fun r => .lst .u 1 (r.map AV.i)) r) := by
  refine ok_of_body hmix m112 rfl ?_
  unfold M_spec_l1Own at h
  simp only [ZC, A112, V112, body_eq]
  obtain ⟨uZ1, huZ1, h⟩ := bind_s h
  have huZ1g := grd_s huZ1
  cases h
  exact ZL huZ1g V112.eq_1
def S_spec_l18FindL1 (linksZ0 : List TLink) (freeZ0 : List Int) (atZ0 : Int) (toZ0 : Int) (rateZ0 : Int) (kZ0 : Int) (seenZ0 : List Int) (v : Int) : St := ⟨[(0, .lst .o 3 (linksZ0.map (e_TLink .o))), (1, .lst .o 1 (freeZ0.map AV.i)), (2, .i atZ0), (3, .i toZ0), (4, .i rateZ0), (5, .i kZ0), (6, .lst .o 1 (seenZ0.map AV.i)), (15, .i v)], []⟩
def SX_spec_l18FindL1 (v : Unit) : St := ⟨[], []⟩
theorem w_spec_l18FindL1 (linksZ0 : List TLink) (freeZ0 : List Int) (atZ0 : Int) (toZ0 : Int) (rateZ0 : Int) (kZ0 : Int) (seenZ0 : List Int) (rcZ0 : List TLink → List Int → Int → Int → Int → Int → List Int → Option (List Int)) (ihZ0 : ∀ (linksZ0 : List TLink) (freeZ0 : List Int) (atZ0 : Int) (toZ0 : Int) (rateZ0 : Int) (kZ0 : Int) (seenZ0 : List Int) {r : List Int}, rcZ0 linksZ0 freeZ0 atZ0 toZ0 rateZ0 kZ0 seenZ0 = some r → Ok Try.prog 100 [.lst .o 3 (linksZ0.map (e_TLink .o)), .lst .o 1 (freeZ0.map AV.i), .i atZ0, .i toZ0, .i rateZ0, .i kZ0, .lst .o 1 (seenZ0.map AV.i)] ((fun r => .lst .u 1 (r.map AV.i)) r)) (sZ1 : Int) (o : Int ⊕ (Unit ⊕ (List Int))) (h : M_spec_l18FindL1 linksZ0 freeZ0 atZ0 toZ0 rateZ0 kZ0 seenZ0 rcZ0 sZ1 = some o) : AWP (OkS Try.prog) A100L5 (qL [0, 1, 2, 3, 4, 5, 6, 15] [] (S_spec_l18FindL1 linksZ0 freeZ0 atZ0 toZ0 rateZ0 kZ0 seenZ0) (qS (qX 0 [] [] (SX_spec_l18FindL1)) (qR V100 (fun r => .lst .u 1 (r.map AV.i)))) o) (S_spec_l18FindL1 linksZ0 freeZ0 atZ0 toZ0 rateZ0 kZ0 seenZ0 sZ1) := by
  unfold M_spec_l18FindL1 at h
  simp only [ZC, S_spec_l18FindL1, A100L5]
  obtain ⟨oZ3, hoZ3, h⟩ := bind_s h
  try refine ZF trivial ?_
  refine join_rule0 (sh := (fun v => ⟨[(0, .lst .o 3 (linksZ0.map (e_TLink .o))), (1, .lst .o 1 (freeZ0.map AV.i)), (2, .i atZ0), (3, .i toZ0), (4, .i rateZ0), (5, .i kZ0), (6, .lst .o 1 (seenZ0.map AV.i)), (15, .i sZ1), (25, .b v)], []⟩)) (s := oZ3) ?_ ?_
  · replace h := hoZ3
    obtain ⟨cZ2, h⟩ | ⟨cZ2, h⟩ := cond_s h
    · cases h
      exact ZL cZ2 trivial
    · cases h
      exact ZL cZ2 trivial
  · simp only [ZC, A100R1]
    obtain ⟨cZ4, h⟩ | ⟨cZ4, h⟩ := cond_s h
    · obtain ⟨oZ7, hoZ7, h⟩ := bind_s h
      try refine ZF cZ4 ?_
      refine join_rule0 (sh := (fun v => ⟨[(0, .lst .o 3 (linksZ0.map (e_TLink .o))), (1, .lst .o 1 (freeZ0.map AV.i)), (2, .i atZ0), (3, .i toZ0), (4, .i rateZ0), (5, .i kZ0), (6, .lst .o 1 (seenZ0.map AV.i)), (15, .i sZ1), (16, .i v)], []⟩)) (s := oZ7) ?_ ?_
      · replace h := hoZ7
        obtain ⟨yZ5, hyZ5, h⟩ := bind_s h
        obtain ⟨hyZ5a, hyZ5b⟩ := geti_s hyZ5
        obtain ⟨cZ6, h⟩ | ⟨cZ6, h⟩ := cond_s h
        · cases h
          exact ZL (ZA cZ4 (ZA hyZ5a (ZA hyZ5b cZ6))) trivial
        · cases h
          exact ZL (ZA cZ4 (ZA hyZ5a (ZA hyZ5b cZ6))) trivial
      · simp only [ZC, A100R2]
        obtain ⟨oZ10, hoZ10, h⟩ := bind_s h
        try refine ZF cZ4 ?_
        refine join_rule0 (sh := (fun v => ⟨[(0, .lst .o 3 (linksZ0.map (e_TLink .o))), (1, .lst .o 1 (freeZ0.map AV.i)), (2, .i atZ0), (3, .i toZ0), (4, .i rateZ0), (5, .i kZ0), (6, .lst .o 1 (seenZ0.map AV.i)), (15, .i sZ1), (16, .i v)], []⟩)) (s := oZ10) ?_ ?_
        · replace h := hoZ10
          obtain ⟨yZ8, hyZ8, h⟩ := bind_s h
          obtain ⟨hyZ8a, hyZ8b⟩ := geti_s hyZ8
          obtain ⟨cZ9, h⟩ | ⟨cZ9, h⟩ := cond_s h
          · cases h
            exact ZL (ZA cZ4 (ZA hyZ8a (ZA hyZ8b cZ9))) trivial
          · cases h
            exact ZL (ZA cZ4 (ZA hyZ8a (ZA hyZ8b cZ9))) trivial
        · simp only [ZC, A100R3]
          obtain ⟨oZ15, hoZ15, h⟩ := bind_s h
          try refine ZF cZ4 ?_
          refine join_rule0 (sh := (fun v => ⟨[(0, .lst .o 3 (linksZ0.map (e_TLink .o))), (1, .lst .o 1 (freeZ0.map AV.i)), (2, .i atZ0), (3, .i toZ0), (4, .i rateZ0), (5, .i kZ0), (6, .lst .o 1 (seenZ0.map AV.i)), (15, .i sZ1), (16, .i oZ10), (66, .b v)], []⟩)) (s := oZ15) ?_ ?_
          · replace h := hoZ15
            obtain ⟨cZ11, h⟩ | ⟨cZ11, h⟩ := cond_s h
            · cases h
              exact ZL (ZA cZ4 cZ11) trivial
            · obtain ⟨yZ12, hyZ12, h⟩ := bind_s h
              obtain ⟨hyZ12a, hyZ12b⟩ := geti_s hyZ12
              obtain ⟨cZ13, h⟩ | ⟨cZ13, h⟩ := cond_s h
              · cases h
                exact ZL (ZA cZ4 (ZA cZ11 (ZA hyZ12a (ZA hyZ12b cZ13)))) trivial
              · obtain ⟨rZ14, hrZ14, h⟩ := bind_s h
                refine ZF (ZA cZ4 (ZA cZ11 (ZA hyZ12a (ZA hyZ12b cZ13)))) ?_
                refine ZS (ZA cZ4 (ZA cZ11 (ZA hyZ12a (ZA hyZ12b cZ13)))) (w_spec_l1Has _ _ hrZ14) ?_
                refine ZG ?_
                cases h
                exact ZL (ZA cZ4 (ZA cZ11 (ZA hyZ12a (ZA hyZ12b cZ13)))) trivial
          · simp only [ZC, A100R4]
            obtain ⟨cZ16, h⟩ | ⟨cZ16, h⟩ := cond_s h
            · cases h
              exact ZL (ZA cZ4 cZ16) (ZA S_spec_l18FindL1.eq_1 SX_spec_l18FindL1.eq_1)
            · obtain ⟨cZ17, h⟩ | ⟨cZ17, h⟩ := cond_s h
              · obtain ⟨cZ18, h⟩ | ⟨cZ18, h⟩ := cond_s h
                · obtain ⟨lZ19, hlZ19, h⟩ := bnd_s h
                  have eZ20 : Row.arr 1 [(.i sZ1 : AV)] = Row.arr 1 (lZ19.map AV.i) := by rw [← hlZ19]; rfl
                  have eZ21 : lZ19.length = 1 := by rw [← hlZ19]; rfl
                  have nZ22 : sub (lZ19.map AV.i) 0 1 = lZ19.map AV.i := sub_n _ (by simp [← hlZ19])
                  cases h
                  exact ZL (ZA cZ4 (ZA cZ16 (ZA cZ17 (ZA cZ18 (ZA eZ20 (ZA eZ21 nZ22)))))) (ZA V100.eq_1 hlZ19.symm)
                · cases h
                  exact ZL (ZA cZ4 (ZA cZ16 (ZA cZ17 cZ18))) (ZA S_spec_l18FindL1.eq_1 SX_spec_l18FindL1.eq_1)
              · obtain ⟨rZ23, hrZ23, h⟩ := bind_s h
                refine ZF (ZA cZ4 (ZA cZ16 cZ17)) ?_
                refine ZU (ZA cZ4 (ZA cZ16 cZ17)) (w_spec_l1Own _ hrZ23) ?_
                refine ZG ?_
                obtain ⟨lZ24, hlZ24, h⟩ := bnd_s h
                have eZ25 : Row.arr 1 [(.i oZ10 : AV)] = Row.arr 1 (lZ24.map AV.i) := by rw [← hlZ24]; rfl
                have eZ26 : lZ24.length = 1 := by rw [← hlZ24]; rfl
                obtain ⟨uZ27, huZ27, h⟩ := bind_s h
                have huZ27g := grd_s huZ27
                obtain ⟨lZ28, hlZ28, h⟩ := bnd_s h
                have eZ29 : rZ23.map AV.i ++ lZ24.map AV.i = lZ28.map AV.i := by rw [← hlZ28, List.map_append]
                have eZ30 : rZ23.length + 1 = lZ28.length := by simp [← hlZ24, ← hlZ28] <;> omega
                rw [eZ30] at huZ27g
                obtain ⟨rZ31, hrZ31, h⟩ := bind_s h
                refine ZF (ZA cZ4 (ZA cZ16 (ZA cZ17 (ZA eZ25 (ZA eZ26 (ZA huZ27g (ZA eZ29 eZ30))))))) ?_
                refine ZU (ZA cZ4 (ZA cZ16 (ZA cZ17 (ZA eZ25 (ZA eZ26 (ZA huZ27g (ZA eZ29 eZ30))))))) (ihZ0 _ _ _ _ _ _ _ hrZ31) ?_
                refine ZG ?_
                obtain ⟨cZ32, h⟩ | ⟨cZ32, h⟩ := cond_s h
                · obtain ⟨lZ33, hlZ33, h⟩ := bnd_s h
                  have eZ34 : Row.arr 1 [(.i sZ1 : AV)] = Row.arr 1 (lZ33.map AV.i) := by rw [← hlZ33]; rfl
                  have eZ35 : lZ33.length = 1 := by rw [← hlZ33]; rfl
                  have nZ36 : sub (lZ33.map AV.i) 0 1 = lZ33.map AV.i := sub_n _ (by simp [← hlZ24, ← hlZ28, ← hlZ33])
                  obtain ⟨uZ37, huZ37, h⟩ := bind_s h
                  have huZ37g := grd_s huZ37
                  obtain ⟨lZ38, hlZ38, h⟩ := bnd_s h
                  have eZ39 : lZ33.map AV.i ++ rZ31.map AV.i = lZ38.map AV.i := by rw [← hlZ38, List.map_append]
                  have eZ40 : 1 + rZ31.length = lZ38.length := by simp [← hlZ24, ← hlZ28, ← hlZ33, ← hlZ38] <;> omega
                  rw [eZ40] at huZ37g
                  cases h
                  exact ZL (ZA cZ4 (ZA cZ16 (ZA cZ17 (ZA eZ25 (ZA eZ26 (ZA huZ27g (ZA eZ29 (ZA eZ30 (ZA cZ32 (ZA eZ34 (ZA eZ35 (ZA nZ36 (ZA huZ37g (ZA eZ39 eZ40)))))))))))))) (ZA V100.eq_1 (ZA hlZ24.symm (ZA hlZ28.symm (ZA hlZ33.symm hlZ38.symm))))
                · cases h
                  exact ZL (ZA cZ4 (ZA cZ16 (ZA cZ17 (ZA eZ25 (ZA eZ26 (ZA huZ27g (ZA eZ29 (ZA eZ30 cZ32)))))))) (ZA S_spec_l18FindL1.eq_1 (ZA SX_spec_l18FindL1.eq_1 (ZA hlZ24.symm hlZ28.symm)))
    · cases h
      exact ZL cZ4 (ZA S_spec_l18FindL1.eq_1 SX_spec_l18FindL1.eq_1)
theorem wB_spec_l18Find (rcZ0 : List TLink → List Int → Int → Int → Int → Int → List Int → Option (List Int)) (ihZ0 : ∀ (linksZ0 : List TLink) (freeZ0 : List Int) (atZ0 : Int) (toZ0 : Int) (rateZ0 : Int) (kZ0 : Int) (seenZ0 : List Int) {r : List Int}, rcZ0 linksZ0 freeZ0 atZ0 toZ0 rateZ0 kZ0 seenZ0 = some r → Ok Try.prog 100 [.lst .o 3 (linksZ0.map (e_TLink .o)), .lst .o 1 (freeZ0.map AV.i), .i atZ0, .i toZ0, .i rateZ0, .i kZ0, .lst .o 1 (seenZ0.map AV.i)] ((fun r => .lst .u 1 (r.map AV.i)) r)) (linksZ0 : List TLink) (freeZ0 : List Int) (atZ0 : Int) (toZ0 : Int) (rateZ0 : Int) (kZ0 : Int) (seenZ0 : List Int) {r : List Int} (h : M_spec_l18Find_B rcZ0 linksZ0 freeZ0 atZ0 toZ0 rateZ0 kZ0 seenZ0 = some r) : Ok Try.prog 100 [.lst .o 3 (linksZ0.map (e_TLink .o)), .lst .o 1 (freeZ0.map AV.i), .i atZ0, .i toZ0, .i rateZ0, .i kZ0, .lst .o 1 (seenZ0.map AV.i)] ((fun r => .lst .u 1 (r.map AV.i)) r) := by
  refine ok_of_body hmix m100 rfl ?_
  unfold M_spec_l18Find_B at h
  simp only [ZC, A100, V100, body_eq]
  obtain ⟨oZ41, hoZ41, h⟩ := bind_s h
  try refine ZF trivial ?_
  refine join_rule (o := oZ41) (blk_rule sideR (loop_rule (w_spec_l18FindL1 linksZ0 freeZ0 atZ0 toZ0 rateZ0 kZ0 seenZ0 rcZ0 ihZ0) hoZ41 ?_)) (fun vZ42 hv => ?_) (fun xZ43 hv e τ hne hq => ?_)
  · exact ZK (ZA S_spec_l18FindL1.eq_1 SX_spec_l18FindL1.eq_1)
  · subst hv
    simp only [] at h
    simp only [ZC, SX_spec_l18FindL1, A100R6]
    cases h
    exact ZL trivial V100.eq_1
  · subst hv
    simp only [] at h
    obtain ⟨rfl, qZ44⟩ := hq
    cases h
    exact qZ44
theorem w_spec_l18Find : ∀ (n : Nat) (linksZ0 : List TLink) (freeZ0 : List Int) (atZ0 : Int) (toZ0 : Int) (rateZ0 : Int) (kZ0 : Int) (seenZ0 : List Int) {r : List Int} (_ : M_spec_l18Find n linksZ0 freeZ0 atZ0 toZ0 rateZ0 kZ0 seenZ0 = some r), Ok Try.prog 100 [.lst .o 3 (linksZ0.map (e_TLink .o)), .lst .o 1 (freeZ0.map AV.i), .i atZ0, .i toZ0, .i rateZ0, .i kZ0, .lst .o 1 (seenZ0.map AV.i)] ((fun r => .lst .u 1 (r.map AV.i)) r)
  | 0, linksZ0, freeZ0, atZ0, toZ0, rateZ0, kZ0, seenZ0, _, h => by cases h
  | n + 1, linksZ0, freeZ0, atZ0, toZ0, rateZ0, kZ0, seenZ0, _, h => wB_spec_l18Find (M_spec_l18Find n) (w_spec_l18Find n) linksZ0 freeZ0 atZ0 toZ0 rateZ0 kZ0 seenZ0 h
def S_spec_l18RouteL1 (linksZ0 : List TLink) (freeZ0 : List Int) (tZ0 : TTributary) (v : Int) : St := ⟨[(0, .lst .o 3 (linksZ0.map (e_TLink .o))), (1, .lst .o 1 (freeZ0.map AV.i)), (5, .pt 5 0 0), (7, .i v)], [(5, .var (.agg [.i tZ0.From, .i tZ0.To, .i tZ0.Rate]))]⟩
def SX_spec_l18RouteL1 (v : Unit) : St := ⟨[], []⟩
theorem w_spec_l18RouteL1 (linksZ0 : List TLink) (freeZ0 : List Int) (tZ0 : TTributary) (sZ1 : Int) (o : Int ⊕ (Unit ⊕ (List Int))) (h : M_spec_l18RouteL1 linksZ0 freeZ0 tZ0 sZ1 = some o) : AWP (OkS Try.prog) A68L1 (qL [0, 1, 5, 7] [5] (S_spec_l18RouteL1 linksZ0 freeZ0 tZ0) (qS (qX 0 [] [] (SX_spec_l18RouteL1)) (qR V68 (fun r => .lst .u 1 (r.map AV.i)))) o) (S_spec_l18RouteL1 linksZ0 freeZ0 tZ0 sZ1) := by
  unfold M_spec_l18RouteL1 at h
  simp only [ZC, S_spec_l18RouteL1, A68L1]
  obtain ⟨cZ2, h⟩ | ⟨cZ2, h⟩ := cond_s h
  · obtain ⟨lZ3, hlZ3, h⟩ := bnd_s h
    have eZ4 : Row.arr 1 [(.i tZ0.From : AV)] = Row.arr 1 (lZ3.map AV.i) := by rw [← hlZ3]; rfl
    have eZ5 : lZ3.length = 1 := by rw [← hlZ3]; rfl
    have nZ6 : sub (lZ3.map AV.i) 0 1 = lZ3.map AV.i := sub_n _ (by simp [← hlZ3])
    obtain ⟨rZ7, hrZ7, h⟩ := bind_s h
    refine ZF (ZA cZ2 (ZA eZ4 (ZA eZ5 nZ6))) ?_
    refine ZU (ZA cZ2 (ZA eZ4 (ZA eZ5 nZ6))) (w_spec_l18Find N0 _ _ _ _ _ _ _ hrZ7) ?_
    refine ZG ?_
    obtain ⟨cZ8, h⟩ | ⟨cZ8, h⟩ := cond_s h
    · cases h
      exact ZL (ZA cZ2 (ZA eZ4 (ZA eZ5 (ZA nZ6 cZ8)))) (ZA V68.eq_1 hlZ3.symm)
    · cases h
      exact ZL (ZA cZ2 (ZA eZ4 (ZA eZ5 (ZA nZ6 cZ8)))) (ZA S_spec_l18RouteL1.eq_1 (ZA SX_spec_l18RouteL1.eq_1 hlZ3.symm))
  · cases h
    exact ZL cZ2 (ZA S_spec_l18RouteL1.eq_1 SX_spec_l18RouteL1.eq_1)
theorem w_spec_l18Route (linksZ0 : List TLink) (freeZ0 : List Int) (tZ0 : TTributary) {r : List Int} (h : M_spec_l18Route linksZ0 freeZ0 tZ0 = some r) : Ok Try.prog 68 [.lst .o 3 (linksZ0.map (e_TLink .o)), .lst .o 1 (freeZ0.map AV.i), .agg [.i tZ0.From, .i tZ0.To, .i tZ0.Rate]] ((fun r => .lst .u 1 (r.map AV.i)) r) := by
  refine ok_of_body hmix m68 rfl ?_
  unfold M_spec_l18Route at h
  simp only [ZC, A68, V68, body_eq]
  obtain ⟨oZ9, hoZ9, h⟩ := bind_s h
  try refine ZF trivial ?_
  refine join_rule (o := oZ9) (blk_rule sideR (loop_rule (w_spec_l18RouteL1 linksZ0 freeZ0 tZ0) hoZ9 ?_)) (fun vZ10 hv => ?_) (fun xZ11 hv e τ hne hq => ?_)
  · exact ZK (ZA S_spec_l18RouteL1.eq_1 SX_spec_l18RouteL1.eq_1)
  · subst hv
    simp only [] at h
    simp only [ZC, SX_spec_l18RouteL1, A68R2]
    cases h
    exact ZL trivial V68.eq_1
  · subst hv
    simp only [] at h
    obtain ⟨rfl, qZ12⟩ := hq
    cases h
    exact qZ12
def S_spec_GroomAllL1 (linksZ0 : List TLink) (listZ0 : List TTributary) (v : Int × List Int) : St := ⟨[(0, .lst .o 3 (linksZ0.map (e_TLink .o))), (2, .lst .o 3 (listZ0.map (e_TTributary .o))), (9, .sl 9 0 0), (10, .sl 10 0 v.2.length), (11, .i v.1)], [(9, .arr 1 []), (10, .arr 1 (v.2.map AV.i))]⟩
def SX_spec_GroomAllL1 (linksZ0 : List TLink) (listZ0 : List TTributary) (v : List Int) : St := ⟨[(0, .lst .o 3 (linksZ0.map (e_TLink .o))), (2, .lst .o 3 (listZ0.map (e_TTributary .o))), (9, .sl 9 0 0), (10, .sl 10 0 v.length)], [(9, .arr 1 []), (10, .arr 1 (v.map AV.i))]⟩
theorem w_spec_GroomAllL1 (linksZ0 : List TLink) (listZ0 : List TTributary) (sZ6 : Int × List Int) (o : (Int × List Int) ⊕ (List Int)) (h : M_spec_GroomAllL1 linksZ0 sZ6 = some o) : AWP (OkS Try.prog) A46L2 (qL [0, 2, 9, 10, 11] [9, 10] (S_spec_GroomAllL1 linksZ0 listZ0) (qX 0 [0, 2, 9, 10] [9, 10] (SX_spec_GroomAllL1 linksZ0 listZ0)) o) (S_spec_GroomAllL1 linksZ0 listZ0 sZ6) := by
  unfold M_spec_GroomAllL1 at h
  simp only [ZC, S_spec_GroomAllL1, A46L2]
  obtain ⟨cZ7, h⟩ | ⟨cZ7, h⟩ := cond_s h
  · obtain ⟨yZ8, hyZ8, h⟩ := bind_s h
    obtain ⟨hyZ8a, hyZ8b⟩ := geti_s hyZ8
    obtain ⟨lZ9, hlZ9, h⟩ := bnd_s h
    have eZ10 : Row.arr 1 [(.i yZ8.Capacity : AV)] = Row.arr 1 (lZ9.map AV.i) := by rw [← hlZ9]; rfl
    have eZ11 : lZ9.length = 1 := by rw [← hlZ9]; rfl
    obtain ⟨uZ12, huZ12, h⟩ := bind_s h
    have huZ12g := grd_s huZ12
    obtain ⟨lZ13, hlZ13, h⟩ := bnd_s h
    have eZ14 : sZ6.2.map AV.i ++ lZ9.map AV.i = lZ13.map AV.i := by rw [← hlZ13, List.map_append]
    have eZ15 : sZ6.2.length + 1 = lZ13.length := by simp [← hlZ9, ← hlZ13] <;> omega
    rw [eZ15] at huZ12g
    cases h
    exact ZL (ZA cZ7 (ZA hyZ8a (ZA hyZ8b (ZA eZ10 (ZA eZ11 (ZA huZ12g (ZA eZ14 eZ15))))))) (ZA S_spec_GroomAllL1.eq_1 (ZA SX_spec_GroomAllL1.eq_1 (ZA hlZ9.symm hlZ13.symm)))
  · cases h
    exact ZL cZ7 (ZA S_spec_GroomAllL1.eq_1 SX_spec_GroomAllL1.eq_1)
def S_spec_GroomAllL3 (linksZ0 : List TLink) (listZ0 : List TTributary) (sZ17 : Int × List (List Int) × List Int) (rZ20 : List Int) (v : Int × List Int) : St := ⟨[(0, .lst .o 3 (linksZ0.map (e_TLink .o))), (2, .lst .o 3 (listZ0.map (e_TTributary .o))), (9, .sl 9 0 sZ17.2.1.length), (10, .sl 10 0 v.2.length), (12, .i sZ17.1), (13, .sl 13 0 rZ20.length), (14, .i v.1)], [(9, .arr 1 (sZ17.2.1.map (e_Li .u))), (10, .arr 1 (v.2.map AV.i)), (13, .arr 1 (rZ20.map AV.i))]⟩
def SX_spec_GroomAllL3 (linksZ0 : List TLink) (listZ0 : List TTributary) (sZ17 : Int × List (List Int) × List Int) (rZ20 : List Int) (v : List Int) : St := ⟨[(0, .lst .o 3 (linksZ0.map (e_TLink .o))), (2, .lst .o 3 (listZ0.map (e_TTributary .o))), (9, .sl 9 0 sZ17.2.1.length), (10, .sl 10 0 v.length), (12, .i sZ17.1), (13, .sl 13 0 rZ20.length)], [(9, .arr 1 (sZ17.2.1.map (e_Li .u))), (10, .arr 1 (v.map AV.i)), (13, .arr 1 (rZ20.map AV.i))]⟩
theorem w_spec_GroomAllL3 (linksZ0 : List TLink) (listZ0 : List TTributary) (sZ17 : Int × List (List Int) × List Int) (rZ20 : List Int) (sZ21 : Int × List Int) (o : (Int × List Int) ⊕ (List Int)) (h : M_spec_GroomAllL3 listZ0 sZ17 rZ20 sZ21 = some o) : AWP (OkS Try.prog) A46L4 (qL [0, 2, 9, 10, 12, 13, 14] [9, 10, 13] (S_spec_GroomAllL3 linksZ0 listZ0 sZ17 rZ20) (qX 4 [0, 2, 9, 10, 12, 13] [9, 10, 13] (SX_spec_GroomAllL3 linksZ0 listZ0 sZ17 rZ20)) o) (S_spec_GroomAllL3 linksZ0 listZ0 sZ17 rZ20 sZ21) := by
  unfold M_spec_GroomAllL3 at h
  simp only [ZC, S_spec_GroomAllL3, A46L4]
  obtain ⟨cZ22, h⟩ | ⟨cZ22, h⟩ := cond_s h
  · obtain ⟨kZ23, hkZ23, h⟩ := bind_s h
    obtain ⟨hkZ23a, hkZ23b⟩ := grd_s hkZ23
    obtain ⟨yZ24, hyZ24, h⟩ := bind_s h
    obtain ⟨kZ25, hkZ25, h⟩ := bind_s h
    obtain ⟨hkZ25a, hkZ25b⟩ := grd_s hkZ25
    obtain ⟨yZ26, hyZ26, h⟩ := bind_s h
    obtain ⟨yZ27, hyZ27, h⟩ := bind_s h
    obtain ⟨hyZ27a, hyZ27b⟩ := geti_s hyZ27
    obtain ⟨lZ28, hlZ28, h⟩ := bnd_s h
    have eZ29 : (sZ21.2.map AV.i).set (Int.toNat yZ24) (.i (IntKind.wrap .i64 (yZ26 - yZ27.Rate))) = lZ28.map AV.i := by rw [← hlZ28, List.map_set]
    cases h
    exact ZL (ZA cZ22 (ZA hkZ23a (ZA hkZ23b (ZA hyZ24 (ZA hkZ25a (ZA hkZ25b (ZA hyZ26 (ZA hyZ27a (ZA hyZ27b eZ29))))))))) (ZA S_spec_GroomAllL3.eq_1 (ZA SX_spec_GroomAllL3.eq_1 hlZ28.symm))
  · cases h
    exact ZL cZ22 (ZA S_spec_GroomAllL3.eq_1 SX_spec_GroomAllL3.eq_1)
def S_spec_GroomAllL2 (linksZ0 : List TLink) (listZ0 : List TTributary) (v : Int × List (List Int) × List Int) : St := ⟨[(0, .lst .o 3 (linksZ0.map (e_TLink .o))), (2, .lst .o 3 (listZ0.map (e_TTributary .o))), (9, .sl 9 0 v.2.1.length), (10, .sl 10 0 v.2.2.length), (12, .i v.1)], [(9, .arr 1 (v.2.1.map (e_Li .u))), (10, .arr 1 (v.2.2.map AV.i))]⟩
def SX_spec_GroomAllL2 (v : List (List Int) × List Int) : St := ⟨[(9, .sl 9 0 v.1.length), (10, .sl 10 0 v.2.length)], [(9, .arr 1 (v.1.map (e_Li .u))), (10, .arr 1 (v.2.map AV.i))]⟩
theorem w_spec_GroomAllL2 (linksZ0 : List TLink) (listZ0 : List TTributary) (sZ17 : Int × List (List Int) × List Int) (o : (Int × List (List Int) × List Int) ⊕ (List (List Int) × List Int)) (h : M_spec_GroomAllL2 linksZ0 listZ0 sZ17 = some o) : AWP (OkS Try.prog) A46L6 (qL [0, 2, 9, 10, 12] [9, 10] (S_spec_GroomAllL2 linksZ0 listZ0) (qX 2 [9, 10] [9, 10] (SX_spec_GroomAllL2)) o) (S_spec_GroomAllL2 linksZ0 listZ0 sZ17) := by
  unfold M_spec_GroomAllL2 at h
  simp only [ZC, S_spec_GroomAllL2, A46L6]
  obtain ⟨cZ18, h⟩ | ⟨cZ18, h⟩ := cond_s h
  · obtain ⟨yZ19, hyZ19, h⟩ := bind_s h
    obtain ⟨hyZ19a, hyZ19b⟩ := geti_s hyZ19
    obtain ⟨rZ20, hrZ20, h⟩ := bind_s h
    refine ZF (ZA cZ18 (ZA hyZ19a hyZ19b)) ?_
    refine ZU (ZA cZ18 (ZA hyZ19a hyZ19b)) (w_spec_l18Route _ _ _ hrZ20) ?_
    refine ZG ?_
    obtain ⟨oZ30, hoZ30, h⟩ := bind_s h
    try refine ZF (ZA cZ18 (ZA hyZ19a hyZ19b)) ?_
    refine join_rule0 (blk_rule0 (loop_rule (w_spec_GroomAllL3 linksZ0 listZ0 sZ17 rZ20) hoZ30 ?_)) ?_
    · exact ZK (ZA S_spec_GroomAllL3.eq_1 SX_spec_GroomAllL3.eq_1)
    · simp only [ZC, SX_spec_GroomAllL3, A46R5]
      obtain ⟨lZ31, hlZ31, h⟩ := bnd_s h
      have eZ32 : Row.arr 1 [(.lst .u 1 (rZ20.map AV.i) : AV)] = Row.arr 1 (lZ31.map (e_Li .u)) := by rw [← hlZ31]; rfl
      have eZ33 : lZ31.length = 1 := by rw [← hlZ31]; rfl
      obtain ⟨uZ34, huZ34, h⟩ := bind_s h
      have huZ34g := grd_s huZ34
      obtain ⟨lZ35, hlZ35, h⟩ := bnd_s h
      have eZ36 : sZ17.2.1.map (e_Li .u) ++ lZ31.map (e_Li .u) = lZ35.map (e_Li .u) := by rw [← hlZ35, List.map_append]
      have eZ37 : sZ17.2.1.length + 1 = lZ35.length := by simp [← hlZ31, ← hlZ35] <;> omega
      rw [eZ37] at huZ34g
      cases h
      exact ZL (ZA cZ18 (ZA hyZ19a (ZA hyZ19b (ZA eZ32 (ZA eZ33 (ZA huZ34g (ZA eZ36 eZ37))))))) (ZA S_spec_GroomAllL2.eq_1 (ZA SX_spec_GroomAllL2.eq_1 (ZA hlZ31.symm hlZ35.symm)))
  · cases h
    exact ZL cZ18 (ZA S_spec_GroomAllL2.eq_1 SX_spec_GroomAllL2.eq_1)
theorem w_spec_GroomAll (linksZ0 : List TLink) (nodesZ0 : Int) (listZ0 : List TTributary) {r : List (List Int) × List Int × Bool} (h : M_spec_GroomAll linksZ0 nodesZ0 listZ0 = some r) : Ok Try.prog 46 [.lst .o 3 (linksZ0.map (e_TLink .o)), .i nodesZ0, .lst .o 3 (listZ0.map (e_TTributary .o))] ((fun r => .tup [.lst .u 1 (r.1.map (e_Li .u)), .lst .u 1 (r.2.1.map AV.i), .b r.2.2]) r) := by
  refine ok_of_body hmix m46 rfl ?_
  unfold M_spec_GroomAll at h
  simp only [ZC, A46, V46, body_eq]
  obtain ⟨oZ4, hoZ4, h⟩ := bind_s h
  try refine ZF trivial ?_
  refine join_rule0 (sh := (fun v => ⟨[(0, .lst .o 3 (linksZ0.map (e_TLink .o))), (2, .lst .o 3 (listZ0.map (e_TTributary .o))), (9, .sl 9 0 0), (10, .sl 10 0 0), (26, .b v)], [(9, .arr 1 []), (10, .arr 1 [])]⟩)) (s := oZ4) ?_ ?_
  · replace h := hoZ4
    obtain ⟨rZ1, hrZ1, h⟩ := bind_s h
    refine ZF trivial ?_
    refine ZS trivial (w_spec_l18Links _ _ hrZ1) ?_
    refine ZG ?_
    obtain ⟨cZ2, h⟩ | ⟨cZ2, h⟩ := cond_s h
    · cases h
      exact ZL cZ2 trivial
    · obtain ⟨rZ3, hrZ3, h⟩ := bind_s h
      refine ZF cZ2 ?_
      refine ZS cZ2 (w_spec_l18Good _ _ hrZ3) ?_
      refine ZG ?_
      cases h
      exact ZL cZ2 trivial
  · simp only [ZC, A46R1]
    obtain ⟨cZ5, h⟩ | ⟨cZ5, h⟩ := cond_s h
    · cases h
      exact ZL cZ5 V46.eq_1
    · obtain ⟨oZ16, hoZ16, h⟩ := bind_s h
      try refine ZF cZ5 ?_
      refine join_rule0 (blk_rule0 (loop_rule (w_spec_GroomAllL1 linksZ0 listZ0) hoZ16 ?_)) ?_
      · exact ZK (ZA S_spec_GroomAllL1.eq_1 SX_spec_GroomAllL1.eq_1)
      · simp only [ZC, SX_spec_GroomAllL1, A46R3]
        obtain ⟨oZ38, hoZ38, h⟩ := bind_s h
        try refine ZF cZ5 ?_
        refine join_rule0 (blk_rule0 (loop_rule (w_spec_GroomAllL2 linksZ0 listZ0) hoZ38 ?_)) ?_
        · exact ZK (ZA S_spec_GroomAllL2.eq_1 SX_spec_GroomAllL2.eq_1)
        · simp only [ZC, SX_spec_GroomAllL2, A46R7]
          cases h
          exact ZL cZ5 V46.eq_1
def S_laws_vIntsL1 (aZ0 : List Int) (bZ0 : List Int) (v : Int) : St := ⟨[(0, .lst .o 1 (aZ0.map AV.i)), (1, .lst .o 1 (bZ0.map AV.i)), (5, .i v)], []⟩
def SX_laws_vIntsL1 (v : Unit) : St := ⟨[], []⟩
theorem w_laws_vIntsL1 (aZ0 : List Int) (bZ0 : List Int) (sZ2 : Int) (o : Int ⊕ (Unit ⊕ Bool)) (h : M_laws_vIntsL1 aZ0 bZ0 sZ2 = some o) : AWP (OkS Try.prog) A47L1 (qL [0, 1, 5] [] (S_laws_vIntsL1 aZ0 bZ0) (qS (qX 0 [] [] (SX_laws_vIntsL1)) (qR V47 (fun r => .b r))) o) (S_laws_vIntsL1 aZ0 bZ0 sZ2) := by
  unfold M_laws_vIntsL1 at h
  simp only [ZC, S_laws_vIntsL1, A47L1]
  obtain ⟨cZ3, h⟩ | ⟨cZ3, h⟩ := cond_s h
  · obtain ⟨yZ4, hyZ4, h⟩ := bind_s h
    obtain ⟨hyZ4a, hyZ4b⟩ := geti_s hyZ4
    obtain ⟨yZ5, hyZ5, h⟩ := bind_s h
    obtain ⟨hyZ5a, hyZ5b⟩ := geti_s hyZ5
    obtain ⟨cZ6, h⟩ | ⟨cZ6, h⟩ := cond_s h
    · cases h
      exact ZL (ZA cZ3 (ZA hyZ4a (ZA hyZ4b (ZA hyZ5a (ZA hyZ5b cZ6))))) V47.eq_1
    · cases h
      exact ZL (ZA cZ3 (ZA hyZ4a (ZA hyZ4b (ZA hyZ5a (ZA hyZ5b cZ6))))) (ZA S_laws_vIntsL1.eq_1 SX_laws_vIntsL1.eq_1)
  · cases h
    exact ZL cZ3 (ZA S_laws_vIntsL1.eq_1 SX_laws_vIntsL1.eq_1)
theorem w_laws_vInts (aZ0 : List Int) (bZ0 : List Int) {r : Bool} (h : M_laws_vInts aZ0 bZ0 = some r) : Ok Try.prog 47 [.lst .o 1 (aZ0.map AV.i), .lst .o 1 (bZ0.map AV.i)] ((fun r => .b r) r) := by
  refine ok_of_body hmix m47 rfl ?_
  unfold M_laws_vInts at h
  simp only [ZC, A47, V47, body_eq]
  obtain ⟨cZ1, h⟩ | ⟨cZ1, h⟩ := cond_s h
  · cases h
    exact ZL cZ1 V47.eq_1
  · obtain ⟨oZ7, hoZ7, h⟩ := bind_s h
    try refine ZF cZ1 ?_
    refine join_rule (o := oZ7) (blk_rule sideR (loop_rule (w_laws_vIntsL1 aZ0 bZ0) hoZ7 ?_)) (fun vZ8 hv => ?_) (fun xZ9 hv e τ hne hq => ?_)
    · exact ZK (ZA S_laws_vIntsL1.eq_1 SX_laws_vIntsL1.eq_1)
    · subst hv
      simp only [] at h
      simp only [ZC, SX_laws_vIntsL1, A47R2]
      cases h
      exact ZL cZ1 V47.eq_1
    · subst hv
      simp only [] at h
      obtain ⟨rfl, qZ10⟩ := hq
      cases h
      exact qZ10
def S_slices_Index_Lint_intL1 (sZ0 : List Int) (vZ0 : Int) (v : Int) : St := ⟨[(0, .lst .o 1 (sZ0.map AV.i)), (1, .i vZ0), (7, .i (sZ0.length : Int)), (8, .i v)], []⟩
def SX_slices_Index_Lint_intL1 (v : Unit) : St := ⟨[], []⟩
theorem w_slices_Index_Lint_intL1 (sZ0 : List Int) (vZ0 : Int) (sZ1 : Int) (o : Int ⊕ (Unit ⊕ Int)) (h : M_slices_Index_Lint_intL1 sZ0 vZ0 sZ1 = some o) : AWP (OkS Try.prog) A106L1 (qL [0, 1, 7, 8] [] (S_slices_Index_Lint_intL1 sZ0 vZ0) (qS (qX 0 [] [] (SX_slices_Index_Lint_intL1)) (qR V106 (fun r => .i r))) o) (S_slices_Index_Lint_intL1 sZ0 vZ0 sZ1) := by
  unfold M_slices_Index_Lint_intL1 at h
  simp only [ZC, S_slices_Index_Lint_intL1, A106L1]
  obtain ⟨cZ2, h⟩ | ⟨cZ2, h⟩ := cond_s h
  · obtain ⟨yZ3, hyZ3, h⟩ := bind_s h
    obtain ⟨hyZ3a, hyZ3b⟩ := geti_s hyZ3
    obtain ⟨cZ4, h⟩ | ⟨cZ4, h⟩ := cond_s h
    · cases h
      exact ZL (ZA cZ2 (ZA hyZ3a (ZA hyZ3b cZ4))) V106.eq_1
    · cases h
      exact ZL (ZA cZ2 (ZA hyZ3a (ZA hyZ3b cZ4))) (ZA S_slices_Index_Lint_intL1.eq_1 SX_slices_Index_Lint_intL1.eq_1)
  · cases h
    exact ZL cZ2 (ZA S_slices_Index_Lint_intL1.eq_1 SX_slices_Index_Lint_intL1.eq_1)
theorem w_slices_Index_Lint_int (sZ0 : List Int) (vZ0 : Int) {r : Int} (h : M_slices_Index_Lint_int sZ0 vZ0 = some r) : Ok Try.prog 106 [.lst .o 1 (sZ0.map AV.i), .i vZ0] ((fun r => .i r) r) := by
  refine ok_of_body hmix m106 rfl ?_
  unfold M_slices_Index_Lint_int at h
  simp only [ZC, A106, V106, body_eq]
  obtain ⟨oZ5, hoZ5, h⟩ := bind_s h
  try refine ZF trivial ?_
  refine join_rule (o := oZ5) (blk_rule sideR (loop_rule (w_slices_Index_Lint_intL1 sZ0 vZ0) hoZ5 ?_)) (fun vZ6 hv => ?_) (fun xZ7 hv e τ hne hq => ?_)
  · exact ZK (ZA S_slices_Index_Lint_intL1.eq_1 SX_slices_Index_Lint_intL1.eq_1)
  · subst hv
    simp only [] at h
    simp only [ZC, SX_slices_Index_Lint_intL1, A106R2]
    cases h
    exact ZL trivial V106.eq_1
  · subst hv
    simp only [] at h
    obtain ⟨rfl, qZ8⟩ := hq
    cases h
    exact qZ8
theorem w_slices_Contains_Lint_int (sZ0 : List Int) (vZ0 : Int) {r : Bool} (h : M_slices_Contains_Lint_int sZ0 vZ0 = some r) : Ok Try.prog 80 [.lst .o 1 (sZ0.map AV.i), .i vZ0] ((fun r => .b r) r) := by
  refine ok_of_body hmix m80 rfl ?_
  unfold M_slices_Contains_Lint_int at h
  simp only [ZC, A80, V80, body_eq]
  obtain ⟨rZ1, hrZ1, h⟩ := bind_s h
  refine ZF trivial ?_
  refine ZS trivial (w_slices_Index_Lint_int _ _ hrZ1) ?_
  refine ZG ?_
  cases h
  exact ZL trivial V80.eq_1
def S_impl_LinkLoadsL2 (linksZ0 : List TLink) (listZ0 : List TTributary) (routesZ0 : List (List Int)) (sZ8 : Int × List Int) (yZ10 : List Int) (v : Int × List Int) : St := ⟨[(0, .lst .o 3 (linksZ0.map (e_TLink .o))), (2, .lst .o 3 (listZ0.map (e_TTributary .o))), (10, .sl 10 0 v.2.length), (11, .i sZ8.1), (12, .lst .o 1 (yZ10.map AV.i)), (30, .lst .o 1 (routesZ0.map (e_Li .o))), (31, .i (routesZ0.length : Int)), (32, .i sZ8.1), (37, .lst .o 1 (yZ10.map AV.i)), (38, .i (yZ10.length : Int)), (39, .i v.1)], [(10, .arr 1 (v.2.map AV.i))]⟩
def SX_impl_LinkLoadsL2 (linksZ0 : List TLink) (listZ0 : List TTributary) (routesZ0 : List (List Int)) (sZ8 : Int × List Int) (v : List Int) : St := ⟨[(0, .lst .o 3 (linksZ0.map (e_TLink .o))), (2, .lst .o 3 (listZ0.map (e_TTributary .o))), (10, .sl 10 0 v.length), (30, .lst .o 1 (routesZ0.map (e_Li .o))), (31, .i (routesZ0.length : Int)), (32, .i sZ8.1)], [(10, .arr 1 (v.map AV.i))]⟩
theorem w_impl_LinkLoadsL2 (linksZ0 : List TLink) (listZ0 : List TTributary) (routesZ0 : List (List Int)) (sZ8 : Int × List Int) (yZ10 : List Int) (sZ11 : Int × List Int) (o : (Int × List Int) ⊕ ((List Int) ⊕ (List Int × Bool))) (h : M_impl_LinkLoadsL2 linksZ0 listZ0 sZ8 yZ10 sZ11 = some o) : AWP (OkS Try.prog) A39L3 (qL [0, 2, 10, 11, 12, 30, 31, 32, 37, 38, 39] [10] (S_impl_LinkLoadsL2 linksZ0 listZ0 routesZ0 sZ8 yZ10) (qS (qX 2 [0, 2, 10, 30, 31, 32] [10] (SX_impl_LinkLoadsL2 linksZ0 listZ0 routesZ0 sZ8)) (qR V39 (fun r => .tup [.lst .u 1 (r.1.map AV.i), .b r.2]))) o) (S_impl_LinkLoadsL2 linksZ0 listZ0 routesZ0 sZ8 yZ10 sZ11) := by
  unfold M_impl_LinkLoadsL2 at h
  simp only [ZC, S_impl_LinkLoadsL2, A39L3]
  obtain ⟨cZ12, h⟩ | ⟨cZ12, h⟩ := cond_s h
  · obtain ⟨yZ13, hyZ13, h⟩ := bind_s h
    obtain ⟨hyZ13a, hyZ13b⟩ := geti_s hyZ13
    obtain ⟨oZ18, hoZ18, h⟩ := bind_s h
    try refine ZF (ZA cZ12 (ZA hyZ13a hyZ13b)) ?_
    refine join_rule0 (sh := (fun v => ⟨[(0, .lst .o 3 (linksZ0.map (e_TLink .o))), (2, .lst .o 3 (listZ0.map (e_TTributary .o))), (10, .sl 10 0 sZ11.2.length), (11, .i sZ8.1), (12, .lst .o 1 (yZ10.map AV.i)), (14, .i yZ13), (30, .lst .o 1 (routesZ0.map (e_Li .o))), (31, .i (routesZ0.length : Int)), (32, .i sZ8.1), (37, .lst .o 1 (yZ10.map AV.i)), (38, .i (yZ10.length : Int)), (39, .i sZ11.1), (56, .b v)], [(10, .arr 1 (sZ11.2.map AV.i))]⟩)) (s := oZ18) ?_ ?_
    · replace h := hoZ18
      obtain ⟨rZ14, hrZ14, h⟩ := bind_s h
      refine ZF (ZA cZ12 (ZA hyZ13a hyZ13b)) ?_
      refine ZS (ZA cZ12 (ZA hyZ13a hyZ13b)) (w_impl_within _ _ _ hrZ14) ?_
      refine ZG ?_
      obtain ⟨cZ15, h⟩ | ⟨cZ15, h⟩ := cond_s h
      · cases h
        exact ZL (ZA cZ12 (ZA hyZ13a (ZA hyZ13b cZ15))) trivial
      · obtain ⟨lZ16, hlZ16, h⟩ := bind_s h
        obtain ⟨hlZ16a, hlZ16b, hlZ16c, hlZ16d, hlZ16e⟩ := slT_s AV.i hlZ16
        obtain ⟨rZ17, hrZ17, h⟩ := bind_s h
        refine ZF (ZA cZ12 (ZA hyZ13a (ZA hyZ13b (ZA cZ15 (ZA hlZ16a (ZA hlZ16b (ZA hlZ16c (ZA hlZ16d hlZ16e)))))))) ?_
        refine ZS (ZA cZ12 (ZA hyZ13a (ZA hyZ13b (ZA cZ15 (ZA hlZ16a (ZA hlZ16b (ZA hlZ16c (ZA hlZ16d hlZ16e)))))))) (w_slices_Contains_Lint_int _ _ hrZ17) ?_
        refine ZG ?_
        cases h
        exact ZL (ZA cZ12 (ZA hyZ13a (ZA hyZ13b (ZA cZ15 (ZA hlZ16a (ZA hlZ16b (ZA hlZ16c (ZA hlZ16d hlZ16e)))))))) trivial
    · simp only [ZC, A39R2]
      obtain ⟨cZ19, h⟩ | ⟨cZ19, h⟩ := cond_s h
      · cases h
        exact ZL (ZA cZ12 (ZA hyZ13a (ZA hyZ13b cZ19))) V39.eq_1
      · obtain ⟨kZ20, hkZ20, h⟩ := bind_s h
        obtain ⟨hkZ20a, hkZ20b⟩ := grd_s hkZ20
        obtain ⟨yZ21, hyZ21, h⟩ := bind_s h
        obtain ⟨yZ22, hyZ22, h⟩ := bind_s h
        obtain ⟨hyZ22a, hyZ22b⟩ := geti_s hyZ22
        obtain ⟨lZ23, hlZ23, h⟩ := bnd_s h
        have eZ24 : (sZ11.2.map AV.i).set (Int.toNat yZ13) (.i (IntKind.wrap .i64 (yZ21 + yZ22.Rate))) = lZ23.map AV.i := by rw [← hlZ23, List.map_set]
        cases h
        exact ZL (ZA cZ12 (ZA hyZ13a (ZA hyZ13b (ZA cZ19 (ZA hkZ20a (ZA hkZ20b (ZA hyZ21 (ZA hyZ22a (ZA hyZ22b eZ24))))))))) (ZA S_impl_LinkLoadsL2.eq_1 (ZA SX_impl_LinkLoadsL2.eq_1 hlZ23.symm))
  · cases h
    exact ZL cZ12 (ZA S_impl_LinkLoadsL2.eq_1 SX_impl_LinkLoadsL2.eq_1)
def S_impl_LinkLoadsL1 (linksZ0 : List TLink) (listZ0 : List TTributary) (routesZ0 : List (List Int)) (v : Int × List Int) : St := ⟨[(0, .lst .o 3 (linksZ0.map (e_TLink .o))), (2, .lst .o 3 (listZ0.map (e_TTributary .o))), (10, .sl 10 0 v.2.length), (30, .lst .o 1 (routesZ0.map (e_Li .o))), (31, .i (routesZ0.length : Int)), (32, .i v.1)], [(10, .arr 1 (v.2.map AV.i))]⟩
def SX_impl_LinkLoadsL1 (v : List Int) : St := ⟨[(10, .sl 10 0 v.length)], [(10, .arr 1 (v.map AV.i))]⟩
theorem w_impl_LinkLoadsL1 (linksZ0 : List TLink) (listZ0 : List TTributary) (routesZ0 : List (List Int)) (sZ8 : Int × List Int) (o : (Int × List Int) ⊕ ((List Int) ⊕ (List Int × Bool))) (h : M_impl_LinkLoadsL1 linksZ0 listZ0 routesZ0 sZ8 = some o) : AWP (OkS Try.prog) A39L5 (qL [0, 2, 10, 30, 31, 32] [10] (S_impl_LinkLoadsL1 linksZ0 listZ0 routesZ0) (qS (qX 0 [10] [10] (SX_impl_LinkLoadsL1)) (qR V39 (fun r => .tup [.lst .u 1 (r.1.map AV.i), .b r.2]))) o) (S_impl_LinkLoadsL1 linksZ0 listZ0 routesZ0 sZ8) := by
  unfold M_impl_LinkLoadsL1 at h
  simp only [ZC, S_impl_LinkLoadsL1, A39L5]
  obtain ⟨cZ9, h⟩ | ⟨cZ9, h⟩ := cond_s h
  · obtain ⟨oZ30, hoZ30, h⟩ := bind_s h
    try refine ZF cZ9 ?_
    refine join_rule (sh := (fun v => ⟨[(0, .lst .o 3 (linksZ0.map (e_TLink .o))), (2, .lst .o 3 (listZ0.map (e_TTributary .o))), (10, .sl 10 0 v.length), (30, .lst .o 1 (routesZ0.map (e_Li .o))), (31, .i (routesZ0.length : Int)), (32, .i sZ8.1)], [(10, .arr 1 (v.map AV.i))]⟩)) (q := (qR V39 (fun r => .tup [.lst .u 1 (r.1.map AV.i), .b r.2]))) (o := oZ30) ?_ (fun vZ31 hv => ?_) (fun xZ32 hv e τ hne hq => ?_)
    · replace h := hoZ30
      obtain ⟨yZ10, hyZ10, h⟩ := bind_s h
      obtain ⟨hyZ10a, hyZ10b⟩ := geti_s hyZ10
      obtain ⟨oZ25, hoZ25, h⟩ := bind_s h
      try refine ZF (ZA cZ9 (ZA hyZ10a hyZ10b)) ?_
      first | refine tail_rule (o := oZ25) (blk_rule sideR (loop_rule (w_impl_LinkLoadsL2 linksZ0 listZ0 routesZ0 sZ8 yZ10) hoZ25 ?_)) (fun vZ26 hv τ qZ28 => ?_) (fun xZ27 hv e τ hne hq => ?_) | refine tail_blk (o := oZ25) sideR (loop_rule (w_impl_LinkLoadsL2 linksZ0 listZ0 routesZ0 sZ8 yZ10) hoZ25 ?_) (fun vZ26 hv τ qZ28 => ?_) (fun xZ27 hv e τ hne hq => ?_)
      · exact ZK (ZA S_impl_LinkLoadsL2.eq_1 SX_impl_LinkLoadsL2.eq_1)
      · subst hv
        simp only [] at h
        cases h
        try refine ZF trivial ?_
        refine ⟨rfl, Shp.sub qZ28 (by decide) (by decide) ?_⟩
        exact ZK SX_impl_LinkLoadsL2.eq_1
      · subst hv
        simp only [] at h
        obtain ⟨rfl, qZ29⟩ := hq
        cases h
        try refine ZF trivial ?_
        first | exact ⟨by simp, qZ29⟩ | exact ⟨by simp, rfl, qZ29⟩
    · subst hv
      simp only [] at h
      simp only [ZC, A39R4]
      cases h
      exact ZL cZ9 (ZA S_impl_LinkLoadsL1.eq_1 SX_impl_LinkLoadsL1.eq_1)
    · subst hv
      simp only [] at h
      obtain ⟨rfl, qZ33⟩ := hq
      cases h
      try refine ZF trivial ?_
      first | exact ⟨by simp, qZ33⟩ | exact ⟨by simp, rfl, qZ33⟩
  · cases h
    exact ZL cZ9 (ZA S_impl_LinkLoadsL1.eq_1 SX_impl_LinkLoadsL1.eq_1)
theorem w_impl_LinkLoads (linksZ0 : List TLink) (nodesZ0 : Int) (listZ0 : List TTributary) (routesZ0 : List (List Int)) {r : List Int × Bool} (h : M_impl_LinkLoads linksZ0 nodesZ0 listZ0 routesZ0 = some r) : Ok Try.prog 39 [.lst .o 3 (linksZ0.map (e_TLink .o)), .i nodesZ0, .lst .o 3 (listZ0.map (e_TTributary .o)), .lst .o 1 (routesZ0.map (e_Li .o))] ((fun r => .tup [.lst .u 1 (r.1.map AV.i), .b r.2]) r) := by
  refine ok_of_body hmix m39 rfl ?_
  unfold M_impl_LinkLoads at h
  simp only [ZC, A39, V39, body_eq]
  obtain ⟨oZ3, hoZ3, h⟩ := bind_s h
  try refine ZF trivial ?_
  refine join_rule0 (sh := (fun v => ⟨[(0, .lst .o 3 (linksZ0.map (e_TLink .o))), (2, .lst .o 3 (listZ0.map (e_TTributary .o))), (3, .lst .o 1 (routesZ0.map (e_Li .o))), (26, .b v)], []⟩)) (s := oZ3) ?_ ?_
  · replace h := hoZ3
    obtain ⟨rZ1, hrZ1, h⟩ := bind_s h
    refine ZF trivial ?_
    refine ZS trivial (w_impl_isGrooming _ _ _ hrZ1) ?_
    refine ZG ?_
    obtain ⟨cZ2, h⟩ | ⟨cZ2, h⟩ := cond_s h
    · cases h
      exact ZL cZ2 trivial
    · cases h
      exact ZL cZ2 trivial
  · simp only [ZC, A39R1]
    obtain ⟨cZ4, h⟩ | ⟨cZ4, h⟩ := cond_s h
    · cases h
      exact ZL cZ4 V39.eq_1
    · obtain ⟨uZ5, huZ5, h⟩ := bind_s h
      obtain ⟨huZ51, huZ52, huZ53, huZ54⟩ := grd_s huZ5
      obtain ⟨lZ6, hlZ6, h⟩ := bnd_s h
      have eZ7 : List.replicate (Int.toNat (linksZ0.length : Int)) (.i 0 : AV) = lZ6.map AV.i := by rw [← hlZ6, List.map_replicate]
      obtain ⟨oZ34, hoZ34, h⟩ := bind_s h
      try refine ZF (ZA cZ4 (ZA huZ51 (ZA huZ52 (ZA huZ53 (ZA huZ54 eZ7))))) ?_
      refine join_rule (o := oZ34) (blk_rule sideR (loop_rule (w_impl_LinkLoadsL1 linksZ0 listZ0 routesZ0) hoZ34 ?_)) (fun vZ35 hv => ?_) (fun xZ36 hv e τ hne hq => ?_)
      · exact ZK (ZA S_impl_LinkLoadsL1.eq_1 (ZA SX_impl_LinkLoadsL1.eq_1 (ZA hlZ6.symm @Zr)))
      · subst hv
        simp only [] at h
        simp only [ZC, SX_impl_LinkLoadsL1, A39R6]
        cases h
        exact ZL (ZA cZ4 (ZA huZ51 (ZA huZ52 (ZA huZ53 (ZA huZ54 eZ7))))) V39.eq_1
      · subst hv
        simp only [] at h
        obtain ⟨rfl, qZ37⟩ := hq
        cases h
        exact qZ37
def S_slices_IndexFunc_Lint_intL1 (sZ0 : List Int) (F_fZ0 : Nat) (C_fZ0 : List AV) (v : Int) : St := ⟨[(0, .lst .o 1 (sZ0.map AV.i)), (1, .fn F_fZ0 C_fZ0), (7, .i (sZ0.length : Int)), (8, .i v)], []⟩
def SX_slices_IndexFunc_Lint_intL1 (v : Unit) : St := ⟨[], []⟩
theorem w_slices_IndexFunc_Lint_intL1 (sZ0 : List Int) (fZ0 : Int → Option Bool) (F_fZ0 : Nat) (C_fZ0 : List AV) (hC_fZ0 : Fixed C_fZ0) (hf_fZ0 : ∀ (x0 : Int) (r : Bool), fZ0 x0 = some r → Ok Try.prog F_fZ0 ((.i x0) :: C_fZ0) (.b r)) (sZ1 : Int) (o : Int ⊕ (Unit ⊕ Int)) (h : M_slices_IndexFunc_Lint_intL1 sZ0 fZ0 sZ1 = some o) : AWP (OkS Try.prog) A98L1 (qL [0, 1, 7, 8] [] (S_slices_IndexFunc_Lint_intL1 sZ0 F_fZ0 C_fZ0) (qS (qX 0 [] [] (SX_slices_IndexFunc_Lint_intL1)) (qR V98 (fun r => .i r))) o) (S_slices_IndexFunc_Lint_intL1 sZ0 F_fZ0 C_fZ0 sZ1) := by
  unfold M_slices_IndexFunc_Lint_intL1 at h
  simp only [ZC, S_slices_IndexFunc_Lint_intL1, A98L1]
  obtain ⟨cZ2, h⟩ | ⟨cZ2, h⟩ := cond_s h
  · obtain ⟨yZ3, hyZ3, h⟩ := bind_s h
    obtain ⟨hyZ3a, hyZ3b⟩ := geti_s hyZ3
    obtain ⟨rZ4, hrZ4, h⟩ := bind_s h
    refine ZF (ZA cZ2 (ZA hyZ3a hyZ3b)) ?_
    refine ZS (ZA cZ2 (ZA hyZ3a (ZA hyZ3b hC_fZ0.1))) (hf_fZ0 _ _ hrZ4) ?_
    refine ZG ?_
    obtain ⟨cZ5, h⟩ | ⟨cZ5, h⟩ := cond_s h
    · cases h
      exact ZL (ZA cZ2 (ZA hyZ3a (ZA hyZ3b cZ5))) (ZA V98.eq_1 (ZA hC_fZ0.2 ((fixed_ren hC_fZ0))))
    · cases h
      exact ZL (ZA cZ2 (ZA hyZ3a (ZA hyZ3b cZ5))) (ZA S_slices_IndexFunc_Lint_intL1.eq_1 (ZA SX_slices_IndexFunc_Lint_intL1.eq_1 (ZA hC_fZ0.2 ((fixed_ren hC_fZ0)))))
  · cases h
    exact ZL cZ2 (ZA S_slices_IndexFunc_Lint_intL1.eq_1 (ZA SX_slices_IndexFunc_Lint_intL1.eq_1 (ZA hC_fZ0.2 ((fixed_ren hC_fZ0)))))
theorem w_slices_IndexFunc_Lint_int (sZ0 : List Int) (fZ0 : Int → Option Bool) {r : Int} (h : M_slices_IndexFunc_Lint_int sZ0 fZ0 = some r) (F_fZ0 : Nat) (C_fZ0 : List AV) (hC_fZ0 : Fixed C_fZ0) (hf_fZ0 : ∀ (x0 : Int) (r : Bool), fZ0 x0 = some r → Ok Try.prog F_fZ0 ((.i x0) :: C_fZ0) (.b r)) : Ok Try.prog 98 [.lst .o 1 (sZ0.map AV.i), .fn F_fZ0 C_fZ0] ((fun r => .i r) r) := by
  refine ok_of_body hmix m98 rfl ?_
  unfold M_slices_IndexFunc_Lint_int at h
  simp only [ZC, A98, V98, body_eq]
  obtain ⟨oZ6, hoZ6, h⟩ := bind_s h
  try refine ZF trivial ?_
  refine join_rule (o := oZ6) (blk_rule sideR (loop_rule (w_slices_IndexFunc_Lint_intL1 sZ0 fZ0 F_fZ0 C_fZ0 hC_fZ0 hf_fZ0) hoZ6 ?_)) (fun vZ7 hv => ?_) (fun xZ8 hv e τ hne hq => ?_)
  · exact ZK (ZA S_slices_IndexFunc_Lint_intL1.eq_1 (ZA SX_slices_IndexFunc_Lint_intL1.eq_1 (ZA hC_fZ0.2 ((fixed_ren hC_fZ0)))))
  · subst hv
    simp only [] at h
    simp only [ZC, SX_slices_IndexFunc_Lint_intL1, A98R2]
    cases h
    exact ZL trivial (ZA V98.eq_1 (ZA hC_fZ0.2 ((fixed_ren hC_fZ0))))
  · subst hv
    simp only [] at h
    obtain ⟨rfl, qZ9⟩ := hq
    cases h
    exact qZ9
theorem w_slices_ContainsFunc_Lint_int (sZ0 : List Int) (fZ0 : Int → Option Bool) {r : Bool} (h : M_slices_ContainsFunc_Lint_int sZ0 fZ0 = some r) (F_fZ0 : Nat) (C_fZ0 : List AV) (hC_fZ0 : Fixed C_fZ0) (hf_fZ0 : ∀ (x0 : Int) (r : Bool), fZ0 x0 = some r → Ok Try.prog F_fZ0 ((.i x0) :: C_fZ0) (.b r)) : Ok Try.prog 71 [.lst .o 1 (sZ0.map AV.i), .fn F_fZ0 C_fZ0] ((fun r => .b r) r) := by
  refine ok_of_body hmix m71 rfl ?_
  unfold M_slices_ContainsFunc_Lint_int at h
  simp only [ZC, A71, V71, body_eq]
  obtain ⟨rZ1, hrZ1, h⟩ := bind_s h
  refine ZF trivial ?_
  refine ZS hC_fZ0.1 (w_slices_IndexFunc_Lint_int _ _ hrZ1 F_fZ0 C_fZ0 hC_fZ0 hf_fZ0) ?_
  refine ZG ?_
  cases h
  exact ZL trivial (ZA V71.eq_1 (ZA hC_fZ0.2 ((fixed_ren hC_fZ0))))
theorem w_impl_RouteTributary_c1 (roomZ0 : Int) {r : Bool} (h : M_impl_RouteTributary_c1 roomZ0 = some r) : Ok Try.prog 72 [.i roomZ0] ((fun r => .b r) r) := by
  refine ok_of_body hmix m72 rfl ?_
  unfold M_impl_RouteTributary_c1 at h
  simp only [ZC, A72, V72, body_eq]
  obtain ⟨rZ1, hrZ1, h⟩ := bind_s h
  refine ZF trivial ?_
  refine ZS trivial (w_impl_within _ _ _ hrZ1) ?_
  refine ZG ?_
  cases h
  exact ZL trivial V72.eq_1
theorem w_impl_RouteTributary (linksZ0 : List TLink) (freeZ0 : List Int) (nodesZ0 : Int) (tZ0 : TTributary) {r : List Int × Bool × Bool} (h : M_impl_RouteTributary linksZ0 freeZ0 nodesZ0 tZ0 = some r) : Ok Try.prog 29 [.lst .o 3 (linksZ0.map (e_TLink .o)), .lst .o 1 (freeZ0.map AV.i), .i nodesZ0, .agg [.i tZ0.From, .i tZ0.To, .i tZ0.Rate]] ((fun r => .tup [.lst .u 1 (r.1.map AV.i), .b r.2.1, .b r.2.2]) r) := by
  refine ok_of_body hmix m29 rfl ?_
  unfold M_impl_RouteTributary at h
  simp only [ZC, A29, V29, body_eq]
  obtain ⟨oZ11, hoZ11, h⟩ := bind_s h
  try refine ZF trivial ?_
  refine join_rule0 (sh := (fun v => ⟨[(0, .lst .o 3 (linksZ0.map (e_TLink .o))), (1, .lst .o 1 (freeZ0.map AV.i)), (7, .pt 7 0 0), (34, .b v)], [(7, .var (.agg [.i tZ0.From, .i tZ0.To, .i tZ0.Rate]))]⟩)) (s := oZ11) ?_ ?_
  · replace h := hoZ11
    obtain ⟨rZ1, hrZ1, h⟩ := bind_s h
    refine ZF trivial ?_
    refine ZS trivial (w_impl_areLinks _ _ hrZ1) ?_
    refine ZG ?_
    obtain ⟨cZ2, h⟩ | ⟨cZ2, h⟩ := cond_s h
    · cases h
      exact ZL cZ2 trivial
    · obtain ⟨lZ3, hlZ3, h⟩ := bnd_s h
      have eZ4 : Row.arr 3 [(.agg [.i tZ0.From, .i tZ0.To, .i tZ0.Rate] : AV)] = Row.arr 3 (lZ3.map (e_TTributary .u)) := by rw [← hlZ3]; rfl
      have eZ5 : lZ3.length = 1 := by rw [← hlZ3]; rfl
      have nZ6 : sub (lZ3.map (e_TTributary .u)) 0 1 = lZ3.map (e_TTributary .u) := sub_n _ (by simp [← hlZ3])
      obtain ⟨rZ7, hrZ7, h⟩ := bind_s h
      refine ZF (ZA cZ2 (ZA eZ4 (ZA eZ5 nZ6))) ?_
      refine ZS (ZA cZ2 (ZA eZ4 (ZA eZ5 nZ6))) (w_impl_IsValidTributaries _ _ hrZ7) ?_
      refine ZG ?_
      obtain ⟨cZ8, h⟩ | ⟨cZ8, h⟩ := cond_s h
      · cases h
        exact ZL (ZA cZ2 (ZA eZ4 (ZA eZ5 (ZA nZ6 cZ8)))) hlZ3.symm
      · obtain ⟨cZ9, h⟩ | ⟨cZ9, h⟩ := cond_s h
        · cases h
          exact ZL (ZA cZ2 (ZA eZ4 (ZA eZ5 (ZA nZ6 (ZA cZ8 cZ9))))) hlZ3.symm
        · obtain ⟨rZ10, hrZ10, h⟩ := bind_s h
          refine ZF (ZA cZ2 (ZA eZ4 (ZA eZ5 (ZA nZ6 (ZA cZ8 cZ9))))) ?_
          refine ZS (ZA cZ2 (ZA eZ4 (ZA eZ5 (ZA nZ6 (ZA cZ8 cZ9))))) (w_slices_ContainsFunc_Lint_int _ _ hrZ10 72 [] ⟨fun ρ k => by simp only [VS1, VS2, VS3, VS4, VS5, VS6, VT1, VT2, finM_ret, finM_nrm, decide_true, decide_false, List.nodup_nil, List.nodup_cons, oks_p, oks_m, oks_h, ne_eq, not_false_eq_true, Int.reduceEq, Int.reduceNe, true_and, Nat.reduceSub, Nat.reduceMul, ↓reduceIte, reduceCtorEq, Nat.reduceEqDiff, Nat.reduceAdd, Nat.reduceLeDiff, Int.reduceLE], by simp [mentsL, AV.ments]⟩ (fun _ _ h => w_impl_RouteTributary_c1 _ h)) ?_
          refine ZG ?_
          cases h
          exact ZL (ZA cZ2 (ZA eZ4 (ZA eZ5 (ZA nZ6 (ZA cZ8 cZ9))))) hlZ3.symm
  · simp only [ZC, A29R1]
    obtain ⟨cZ12, h⟩ | ⟨cZ12, h⟩ := cond_s h
    · cases h
      exact ZL cZ12 V29.eq_1
    · obtain ⟨rZ13, hrZ13, h⟩ := bind_s h
      refine ZF cZ12 ?_
      refine ZU cZ12 (w_impl_routed _ _ _ hrZ13) ?_
      refine ZG ?_
      cases h
      exact ZL cZ12 V29.eq_1
theorem w_impl_BlockedRate (linksZ0 : List TLink) (nodesZ0 : Int) (listZ0 : List TTributary) {r : Int × Bool} (h : M_impl_BlockedRate linksZ0 nodesZ0 listZ0 = some r) : Ok Try.prog 33 [.lst .o 3 (linksZ0.map (e_TLink .o)), .i nodesZ0, .lst .o 3 (listZ0.map (e_TTributary .o))] ((fun r => .tup [.i r.1, .b r.2]) r) := by
  refine ok_of_body hmix m33 rfl ?_
  unfold M_impl_BlockedRate at h
  simp only [ZC, A33, V33, body_eq]
  obtain ⟨rZ1, hrZ1, h⟩ := bind_s h
  refine ZF trivial ?_
  refine ZS trivial (w_impl_isGrooming _ _ _ hrZ1) ?_
  refine ZG ?_
  obtain ⟨cZ2, h⟩ | ⟨cZ2, h⟩ := cond_s h
  · cases h
    exact ZL cZ2 V33.eq_1
  · obtain ⟨rZ3, hrZ3, h⟩ := bind_s h
    refine ZF cZ2 ?_
    refine ZU cZ2 (w_impl_groomed _ _ hrZ3) ?_
    refine ZG ?_
    cases h
    exact ZL cZ2 V33.eq_1
def S_laws_FnGroomingL1 (rZ3 : List TLink × Int × List TTributary) (rZ4 : List (List Int) × List Int × Bool) (rZ14 : List Int × Bool) (v : Int) : St := ⟨[(3, .sl 3 0 rZ3.1.length), (4, .i rZ3.2.1), (5, .sl 5 0 rZ3.2.2.length), (6, .sl 6 0 rZ4.1.length), (7, .sl 7 0 rZ4.2.1.length), (12, .sl 12 0 rZ14.1.length), (14, .i v)], [(3, .arr 3 (rZ3.1.map (e_TLink .u))), (5, .arr 3 (rZ3.2.2.map (e_TTributary .u))), (6, .arr 1 (rZ4.1.map (e_Li .u))), (7, .arr 1 (rZ4.2.1.map AV.i)), (12, .arr 1 (rZ14.1.map AV.i))]⟩
def SX_laws_FnGroomingL1 (rZ3 : List TLink × Int × List TTributary) (rZ4 : List (List Int) × List Int × Bool) (v : Unit) : St := ⟨[(3, .sl 3 0 rZ3.1.length), (4, .i rZ3.2.1), (5, .sl 5 0 rZ3.2.2.length), (6, .sl 6 0 rZ4.1.length), (7, .sl 7 0 rZ4.2.1.length)], [(3, .arr 3 (rZ3.1.map (e_TLink .u))), (5, .arr 3 (rZ3.2.2.map (e_TTributary .u))), (6, .arr 1 (rZ4.1.map (e_Li .u))), (7, .arr 1 (rZ4.2.1.map AV.i))]⟩
theorem w_laws_FnGroomingL1 (rZ3 : List TLink × Int × List TTributary) (rZ4 : List (List Int) × List Int × Bool) (rZ14 : List Int × Bool) (sZ20 : Int) (o : Int ⊕ (Unit ⊕ Bool)) (h : M_laws_FnGroomingL1 rZ3 rZ4 rZ14 sZ20 = some o) : AWP (OkS Try.prog) A9L5 (qL [3, 4, 5, 6, 7, 12, 14] [3, 5, 6, 7, 12] (S_laws_FnGroomingL1 rZ3 rZ4 rZ14) (qS (qX 0 [3, 4, 5, 6, 7] [3, 5, 6, 7] (SX_laws_FnGroomingL1 rZ3 rZ4)) (qR V9 (fun r => .b r))) o) (S_laws_FnGroomingL1 rZ3 rZ4 rZ14 sZ20) := by
  unfold M_laws_FnGroomingL1 at h
  simp only [ZC, S_laws_FnGroomingL1, A9L5]
  obtain ⟨cZ21, h⟩ | ⟨cZ21, h⟩ := cond_s h
  · obtain ⟨oZ29, hoZ29, h⟩ := bind_s h
    try refine ZF cZ21 ?_
    refine join_rule0 (sh := (fun v => ⟨[(3, .sl 3 0 rZ3.1.length), (4, .i rZ3.2.1), (5, .sl 5 0 rZ3.2.2.length), (6, .sl 6 0 rZ4.1.length), (7, .sl 7 0 rZ4.2.1.length), (12, .sl 12 0 rZ14.1.length), (14, .i sZ20), (125, .b v)], [(3, .arr 3 (rZ3.1.map (e_TLink .u))), (5, .arr 3 (rZ3.2.2.map (e_TTributary .u))), (6, .arr 1 (rZ4.1.map (e_Li .u))), (7, .arr 1 (rZ4.2.1.map AV.i)), (12, .arr 1 (rZ14.1.map AV.i))]⟩)) (s := oZ29) ?_ ?_
    · replace h := hoZ29
      obtain ⟨kZ22, hkZ22, h⟩ := bind_s h
      obtain ⟨hkZ22a, hkZ22b⟩ := grd_s hkZ22
      obtain ⟨yZ23, hyZ23, h⟩ := bind_s h
      obtain ⟨kZ24, hkZ24, h⟩ := bind_s h
      obtain ⟨hkZ24a, hkZ24b⟩ := grd_s hkZ24
      obtain ⟨yZ25, hyZ25, h⟩ := bind_s h
      obtain ⟨kZ26, hkZ26, h⟩ := bind_s h
      obtain ⟨hkZ26a, hkZ26b⟩ := grd_s hkZ26
      obtain ⟨yZ27, hyZ27, h⟩ := bind_s h
      obtain ⟨cZ28, h⟩ | ⟨cZ28, h⟩ := cond_s h
      · cases h
        exact ZL (ZA cZ21 (ZA hkZ22a (ZA hkZ22b (ZA hyZ23 (ZA hkZ24a (ZA hkZ24b (ZA hyZ25 (ZA hkZ26a (ZA hkZ26b (ZA hyZ27 cZ28)))))))))) trivial
      · cases h
        exact ZL (ZA cZ21 (ZA hkZ22a (ZA hkZ22b (ZA hyZ23 (ZA hkZ24a (ZA hkZ24b (ZA hyZ25 (ZA hkZ26a (ZA hkZ26b (ZA hyZ27 cZ28)))))))))) trivial
    · simp only [ZC, A9R4]
      obtain ⟨cZ30, h⟩ | ⟨cZ30, h⟩ := cond_s h
      · cases h
        exact ZL (ZA cZ21 cZ30) V9.eq_1
      · cases h
        exact ZL (ZA cZ21 cZ30) (ZA S_laws_FnGroomingL1.eq_1 SX_laws_FnGroomingL1.eq_1)
  · cases h
    exact ZL cZ21 (ZA S_laws_FnGroomingL1.eq_1 SX_laws_FnGroomingL1.eq_1)
def S_laws_FnGroomingL2 (rZ3 : List TLink × Int × List TTributary) (rZ4 : List (List Int) × List Int × Bool) (v : Int × Int) : St := ⟨[(3, .sl 3 0 rZ3.1.length), (4, .i rZ3.2.1), (5, .sl 5 0 rZ3.2.2.length), (6, .sl 6 0 rZ4.1.length), (7, .sl 7 0 rZ4.2.1.length), (15, .i v.1), (16, .i v.2)], [(3, .arr 3 (rZ3.1.map (e_TLink .u))), (5, .arr 3 (rZ3.2.2.map (e_TTributary .u))), (6, .arr 1 (rZ4.1.map (e_Li .u))), (7, .arr 1 (rZ4.2.1.map AV.i))]⟩
def SX_laws_FnGroomingL2 (rZ3 : List TLink × Int × List TTributary) (v : Int) : St := ⟨[(3, .sl 3 0 rZ3.1.length), (4, .i rZ3.2.1), (5, .sl 5 0 rZ3.2.2.length), (15, .i v)], [(3, .arr 3 (rZ3.1.map (e_TLink .u))), (5, .arr 3 (rZ3.2.2.map (e_TTributary .u)))]⟩
theorem w_laws_FnGroomingL2 (rZ3 : List TLink × Int × List TTributary) (rZ4 : List (List Int) × List Int × Bool) (sZ34 : Int × Int) (o : (Int × Int) ⊕ (Int ⊕ Bool)) (h : M_laws_FnGroomingL2 rZ3 rZ4 sZ34 = some o) : AWP (OkS Try.prog) A9L8 (qL [3, 4, 5, 6, 7, 15, 16] [3, 5, 6, 7] (S_laws_FnGroomingL2 rZ3 rZ4) (qS (qX 2 [3, 4, 5, 15] [3, 5] (SX_laws_FnGroomingL2 rZ3)) (qR V9 (fun r => .b r))) o) (S_laws_FnGroomingL2 rZ3 rZ4 sZ34) := by
  unfold M_laws_FnGroomingL2 at h
  simp only [ZC, S_laws_FnGroomingL2, A9L8]
  obtain ⟨cZ35, h⟩ | ⟨cZ35, h⟩ := cond_s h
  · obtain ⟨kZ36, hkZ36, h⟩ := bind_s h
    obtain ⟨hkZ36a, hkZ36b⟩ := grd_s hkZ36
    obtain ⟨yZ37, hyZ37, h⟩ := bind_s h
    obtain ⟨cZ38, h⟩ | ⟨cZ38, h⟩ := cond_s h
    · obtain ⟨kZ39, hkZ39, h⟩ := bind_s h
      obtain ⟨hkZ39a, hkZ39b⟩ := grd_s hkZ39
      obtain ⟨yZ40, hyZ40, h⟩ := bind_s h
      obtain ⟨rZ41, hrZ41, h⟩ := bind_s h
      refine ZF (ZA cZ35 (ZA hkZ36a (ZA hkZ36b (ZA hyZ37 (ZA cZ38 (ZA hkZ39a (ZA hkZ39b hyZ40))))))) ?_
      refine ZU (ZA cZ35 (ZA hkZ36a (ZA hkZ36b (ZA hyZ37 (ZA cZ38 (ZA hkZ39a (ZA hkZ39b hyZ40))))))) (w_impl_RouteTributary _ _ _ _ hrZ41) ?_
      refine ZG ?_
      obtain ⟨oZ43, hoZ43, h⟩ := bind_s h
      try refine ZF (ZA cZ35 (ZA hkZ36a (ZA hkZ36b (ZA hyZ37 (ZA cZ38 (ZA hkZ39a (ZA hkZ39b hyZ40))))))) ?_
      refine join_rule0 (sh := (fun v => ⟨[(3, .sl 3 0 rZ3.1.length), (4, .i rZ3.2.1), (5, .sl 5 0 rZ3.2.2.length), (6, .sl 6 0 rZ4.1.length), (7, .sl 7 0 rZ4.2.1.length), (15, .i (IntKind.wrap .i64 (sZ34.1 + yZ40.Rate))), (16, .i sZ34.2), (161, .b v)], [(3, .arr 3 (rZ3.1.map (e_TLink .u))), (5, .arr 3 (rZ3.2.2.map (e_TTributary .u))), (6, .arr 1 (rZ4.1.map (e_Li .u))), (7, .arr 1 (rZ4.2.1.map AV.i))]⟩)) (s := oZ43) ?_ ?_
      · replace h := hoZ43
        obtain ⟨cZ42, h⟩ | ⟨cZ42, h⟩ := cond_s h
        · cases h
          exact ZL (ZA cZ35 (ZA hkZ36a (ZA hkZ36b (ZA hyZ37 (ZA cZ38 (ZA hkZ39a (ZA hkZ39b (ZA hyZ40 cZ42)))))))) trivial
        · cases h
          exact ZL (ZA cZ35 (ZA hkZ36a (ZA hkZ36b (ZA hyZ37 (ZA cZ38 (ZA hkZ39a (ZA hkZ39b (ZA hyZ40 cZ42)))))))) trivial
      · simp only [ZC, A9R7]
        obtain ⟨cZ44, h⟩ | ⟨cZ44, h⟩ := cond_s h
        · cases h
          exact ZL (ZA cZ35 (ZA hkZ36a (ZA hkZ36b (ZA hyZ37 (ZA cZ38 (ZA hkZ39a (ZA hkZ39b (ZA hyZ40 cZ44)))))))) V9.eq_1
        · cases h
          exact ZL (ZA cZ35 (ZA hkZ36a (ZA hkZ36b (ZA hyZ37 (ZA cZ38 (ZA hkZ39a (ZA hkZ39b (ZA hyZ40 cZ44)))))))) (ZA S_laws_FnGroomingL2.eq_1 SX_laws_FnGroomingL2.eq_1)
    · cases h
      exact ZL (ZA cZ35 (ZA hkZ36a (ZA hkZ36b (ZA hyZ37 cZ38)))) (ZA S_laws_FnGroomingL2.eq_1 SX_laws_FnGroomingL2.eq_1)
  · cases h
    exact ZL cZ35 (ZA S_laws_FnGroomingL2.eq_1 SX_laws_FnGroomingL2.eq_1)
theorem w_laws_FnGrooming (codeZ0 : List Int) {r : Bool} (h : M_laws_FnGrooming codeZ0 = some r) : Ok Try.prog 9 [.lst .o 1 (codeZ0.map AV.u8)] ((fun r => .b r) r) := by
  refine ok_of_body hmix m9 rfl ?_
  unfold M_laws_FnGrooming at h
  simp only [ZC, A9, V9, body_eq]
  obtain ⟨rZ1, hrZ1, h⟩ := bind_s h
  refine ZF trivial ?_
  refine ZS trivial (w_laws_vBig _ hrZ1) ?_
  refine ZG ?_
  obtain ⟨cZ2, h⟩ | ⟨cZ2, h⟩ := cond_s h
  · cases h
    exact ZL cZ2 V9.eq_1
  · obtain ⟨rZ3, hrZ3, h⟩ := bind_s h
    refine ZF cZ2 ?_
    refine ZU cZ2 (w_spec_DrawGroomAll _ hrZ3) ?_
    refine ZG ?_
    obtain ⟨rZ4, hrZ4, h⟩ := bind_s h
    refine ZF cZ2 ?_
    refine ZU cZ2 (w_impl_GroomAll _ _ _ hrZ4) ?_
    refine ZG ?_
    obtain ⟨rZ5, hrZ5, h⟩ := bind_s h
    refine ZF cZ2 ?_
    refine ZU cZ2 (w_spec_GroomAll _ _ _ hrZ5) ?_
    refine ZG ?_
    obtain ⟨oZ9, hoZ9, h⟩ := bind_s h
    try refine ZF cZ2 ?_
    refine join_rule0 (sh := (fun v => ⟨[(3, .sl 3 0 rZ3.1.length), (4, .i rZ3.2.1), (5, .sl 5 0 rZ3.2.2.length), (6, .sl 6 0 rZ4.1.length), (7, .sl 7 0 rZ4.2.1.length), (8, .b rZ4.2.2), (10, .sl 10 0 rZ5.2.1.length), (11, .b rZ5.2.2), (58, .b v)], [(3, .arr 3 (rZ3.1.map (e_TLink .u))), (5, .arr 3 (rZ3.2.2.map (e_TTributary .u))), (6, .arr 1 (rZ4.1.map (e_Li .u))), (7, .arr 1 (rZ4.2.1.map AV.i)), (10, .arr 1 (rZ5.2.1.map AV.i))]⟩)) (s := oZ9) ?_ ?_
    · replace h := hoZ9
      obtain ⟨cZ6, h⟩ | ⟨cZ6, h⟩ := cond_s h
      · cases h
        exact ZL (ZA cZ2 cZ6) trivial
      · obtain ⟨rZ7, hrZ7, h⟩ := bind_s h
        refine ZF (ZA cZ2 cZ6) ?_
        refine ZS (ZA cZ2 cZ6) (w_laws_vInts _ _ hrZ7) ?_
        refine ZG ?_
        obtain ⟨cZ8, h⟩ | ⟨cZ8, h⟩ := cond_s h
        · cases h
          exact ZL (ZA cZ2 (ZA cZ6 cZ8)) trivial
        · cases h
          exact ZL (ZA cZ2 (ZA cZ6 cZ8)) trivial
    · simp only [ZC, A9R1]
      obtain ⟨cZ10, h⟩ | ⟨cZ10, h⟩ := cond_s h
      · obtain ⟨oZ13, hoZ13, h⟩ := bind_s h
        try refine ZF (ZA cZ2 cZ10) ?_
        refine join_rule0 (sh := (fun v => ⟨[(2, .b v)], []⟩)) (s := oZ13) ?_ ?_
        · replace h := hoZ13
          obtain ⟨cZ11, h⟩ | ⟨cZ11, h⟩ := cond_s h
          · obtain ⟨rZ12, hrZ12, h⟩ := bind_s h
            refine ZF (ZA cZ2 (ZA cZ10 cZ11)) ?_
            refine ZS (ZA cZ2 (ZA cZ10 cZ11)) (w_laws_vInts _ _ hrZ12) ?_
            refine ZG ?_
            cases h
            exact ZL (ZA cZ2 (ZA cZ10 cZ11)) trivial
          · cases h
            exact ZL (ZA cZ2 (ZA cZ10 cZ11)) trivial
        · simp only [ZC, A9R2]
          cases h
          exact ZL (ZA cZ2 cZ10) V9.eq_1
      · obtain ⟨rZ14, hrZ14, h⟩ := bind_s h
        refine ZF (ZA cZ2 cZ10) ?_
        refine ZU (ZA cZ2 cZ10) (w_impl_LinkLoads _ _ _ _ hrZ14) ?_
        refine ZG ?_
        obtain ⟨oZ18, hoZ18, h⟩ := bind_s h
        try refine ZF (ZA cZ2 cZ10) ?_
        refine join_rule0 (sh := (fun v => ⟨[(3, .sl 3 0 rZ3.1.length), (4, .i rZ3.2.1), (5, .sl 5 0 rZ3.2.2.length), (6, .sl 6 0 rZ4.1.length), (7, .sl 7 0 rZ4.2.1.length), (12, .sl 12 0 rZ14.1.length), (97, .b v)], [(3, .arr 3 (rZ3.1.map (e_TLink .u))), (5, .arr 3 (rZ3.2.2.map (e_TTributary .u))), (6, .arr 1 (rZ4.1.map (e_Li .u))), (7, .arr 1 (rZ4.2.1.map AV.i)), (12, .arr 1 (rZ14.1.map AV.i))]⟩)) (s := oZ18) ?_ ?_
        · replace h := hoZ18
          obtain ⟨cZ15, h⟩ | ⟨cZ15, h⟩ := cond_s h
          · cases h
            exact ZL (ZA cZ2 (ZA cZ10 cZ15)) trivial
          · obtain ⟨cZ16, h⟩ | ⟨cZ16, h⟩ := cond_s h
            · cases h
              exact ZL (ZA cZ2 (ZA cZ10 (ZA cZ15 cZ16))) trivial
            · obtain ⟨cZ17, h⟩ | ⟨cZ17, h⟩ := cond_s h
              · cases h
                exact ZL (ZA cZ2 (ZA cZ10 (ZA cZ15 (ZA cZ16 cZ17)))) trivial
              · cases h
                exact ZL (ZA cZ2 (ZA cZ10 (ZA cZ15 (ZA cZ16 cZ17)))) trivial
        · simp only [ZC, A9R3]
          obtain ⟨cZ19, h⟩ | ⟨cZ19, h⟩ := cond_s h
          · cases h
            exact ZL (ZA cZ2 (ZA cZ10 cZ19)) V9.eq_1
          · obtain ⟨oZ31, hoZ31, h⟩ := bind_s h
            try refine ZF (ZA cZ2 (ZA cZ10 cZ19)) ?_
            refine join_rule (o := oZ31) (blk_rule sideR (loop_rule (w_laws_FnGroomingL1 rZ3 rZ4 rZ14) hoZ31 ?_)) (fun vZ32 hv => ?_) (fun xZ33 hv e τ hne hq => ?_)
            · exact ZK (ZA S_laws_FnGroomingL1.eq_1 SX_laws_FnGroomingL1.eq_1)
            · subst hv
              simp only [] at h
              simp only [ZC, SX_laws_FnGroomingL1, A9R6]
              obtain ⟨oZ45, hoZ45, h⟩ := bind_s h
              try refine ZF (ZA cZ2 (ZA cZ10 cZ19)) ?_
              refine join_rule (o := oZ45) (blk_rule sideR (loop_rule (w_laws_FnGroomingL2 rZ3 rZ4) hoZ45 ?_)) (fun vZ46 hv => ?_) (fun xZ47 hv e τ hne hq => ?_)
              · exact ZK (ZA S_laws_FnGroomingL2.eq_1 SX_laws_FnGroomingL2.eq_1)
              · subst hv
                simp only [] at h
                simp only [ZC, SX_laws_FnGroomingL2, A9R9]
                obtain ⟨rZ48, hrZ48, h⟩ := bind_s h
                refine ZF (ZA cZ2 (ZA cZ10 cZ19)) ?_
                refine ZU (ZA cZ2 (ZA cZ10 cZ19)) (w_impl_BlockedRate _ _ _ hrZ48) ?_
                refine ZG ?_
                obtain ⟨cZ49, h⟩ | ⟨cZ49, h⟩ := cond_s h
                · cases h
                  exact ZL (ZA cZ2 (ZA cZ10 (ZA cZ19 cZ49))) V9.eq_1
                · cases h
                  exact ZL (ZA cZ2 (ZA cZ10 (ZA cZ19 cZ49))) V9.eq_1
              · subst hv
                simp only [] at h
                obtain ⟨rfl, qZ50⟩ := hq
                cases h
                exact qZ50
            · subst hv
              simp only [] at h
              obtain ⟨rfl, qZ51⟩ := hq
              cases h
              exact qZ51
end Vs

