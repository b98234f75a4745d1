/-
  Part of the proof that the law FnDirect returns true at every input; no condition beside the row's own.
-/
import Derived.Test.YtgbifbhfdjdhbaaAa
set_option linter.defProp false
set_option linter.unusedSimpArgs false
set_option linter.unusedVariables false
set_option maxHeartbeats 1000000
set_option maxRecDepth 8000
namespace Vs
open Go Go.Proofs
attribute [local irreducible] AWP stOps eff awpC callA callM
theorem VT1 : (∀ (f : Fl) (x : TTributary), e_TTributary f x = .agg [.i x.From, .i x.To, .i x.Rate]) ∧
  (∀ (f : Fl) (x : Tl1Cur), e_Tl1Cur f x = .agg [.lst f 1 (x.code.map AV.u8), .i x.atF, .sc (.int .u64 x.seed)]) ∧
  (∀ (f : Fl) (x : List Int), e_Li f x = .lst f 1 (x.map AV.i)) := ⟨fun _ _ => rfl, fun _ _ => rfl, fun _ _ => rfl⟩
theorem VT2 : (∀ (f : Fl) (x : TTributary), (e_TTributary f x).nrm = e_TTributary .o x) ∧
  (∀ (f : Fl) (xs : List TTributary), (xs.map (e_TTributary f)).map AV.nrm = xs.map (e_TTributary .o)) ∧
  (∀ (f : Fl) (x : TTributary), (e_TTributary f x).als = e_TTributary f.als x) ∧
  (∀ (f : Fl) (xs : List TTributary), (xs.map (e_TTributary f)).map AV.als = xs.map (e_TTributary f.als)) ∧
  (∀ (f : Fl) (x : TTributary), (e_TTributary f x).fix = e_TTributary f.fix x) ∧
  (∀ (f : Fl) (xs : List TTributary), (xs.map (e_TTributary f)).map AV.fix = xs.map (e_TTributary f.fix)) ∧
  (∀ (f : Fl) (x : Tl1Cur), (e_Tl1Cur f x).nrm = e_Tl1Cur .o x) ∧
  (∀ (f : Fl) (xs : List Tl1Cur), (xs.map (e_Tl1Cur f)).map AV.nrm = xs.map (e_Tl1Cur .o)) ∧
  (∀ (f : Fl) (x : Tl1Cur), (e_Tl1Cur f x).als = e_Tl1Cur f.als x) ∧
  (∀ (f : Fl) (xs : List Tl1Cur), (xs.map (e_Tl1Cur f)).map AV.als = xs.map (e_Tl1Cur f.als)) ∧
  (∀ (f : Fl) (x : Tl1Cur), (e_Tl1Cur f x).fix = e_Tl1Cur f.fix x) ∧
  (∀ (f : Fl) (xs : List Tl1Cur), (xs.map (e_Tl1Cur f)).map AV.fix = xs.map (e_Tl1Cur f.fix)) ∧
  (∀ (f : Fl) (x : List Int), (e_Li f x).nrm = e_Li .o x) ∧
  (∀ (f : Fl) (xs : List (List Int)), (xs.map (e_Li f)).map AV.nrm = xs.map (e_Li .o)) ∧
  (∀ (f : Fl) (x : List Int), (e_Li f x).als = e_Li f.als x) ∧
  (∀ (f : Fl) (xs : List (List Int)), (xs.map (e_Li f)).map AV.als = xs.map (e_Li f.als)) ∧
  (∀ (f : Fl) (x : List Int), (e_Li f x).fix = e_Li f.fix x) ∧
  (∀ (f : Fl) (xs : List (List Int)), (xs.map (e_Li f)).map AV.fix = xs.map (e_Li f.fix)) :=
  ⟨@e_TTributary_nrm, @e_TTributary_nrmm, @e_TTributary_als, @e_TTributary_alsm, @e_TTributary_fix, @e_TTributary_fixm, @e_Tl1Cur_nrm, @e_Tl1Cur_nrmm, @e_Tl1Cur_als, @e_Tl1Cur_alsm, @e_Tl1Cur_fix, @e_Tl1Cur_fixm, @e_Li_nrm, @e_Li_nrmm, @e_Li_als, @e_Li_alsm, @e_Li_fix, @e_Li_fixm⟩
theorem VF1 : (∀ (f : Fl) (x : TTributary), (e_TTributary f x).fix = e_TTributary f.fix x) ∧
  (∀ (f : Fl) (xs : List TTributary), (xs.map (e_TTributary f)).map AV.fix = xs.map (e_TTributary f.fix)) ∧
  (∀ (f : Fl) (x : Tl1Cur), (e_Tl1Cur f x).fix = e_Tl1Cur f.fix x) ∧
  (∀ (f : Fl) (xs : List Tl1Cur), (xs.map (e_Tl1Cur f)).map AV.fix = xs.map (e_Tl1Cur f.fix)) ∧
  (∀ (f : Fl) (x : List Int), (e_Li f x).fix = e_Li f.fix x) ∧
  (∀ (f : Fl) (xs : List (List Int)), (xs.map (e_Li f)).map AV.fix = xs.map (e_Li f.fix)) :=
  ⟨@e_TTributary_fix, @e_TTributary_fixm, @e_Tl1Cur_fix, @e_Tl1Cur_fixm, @e_Li_fix, @e_Li_fixm⟩
theorem VZ1 : (∀ (x : TTributary), (e_TTributary .o x).fz = true) ∧
  (∀ (xs : List TTributary), fzL (xs.map (e_TTributary .o)) = true) ∧
  (∀ (x : TTributary), (e_TTributary .u x).ouB = true) ∧
  (∀ (xs : List TTributary), ouBL (xs.map (e_TTributary .u)) = true) ∧
  (∀ (x : Tl1Cur), (e_Tl1Cur .o x).fz = true) ∧
  (∀ (xs : List Tl1Cur), fzL (xs.map (e_Tl1Cur .o)) = true) ∧
  (∀ (x : Tl1Cur), (e_Tl1Cur .u x).ouB = true) ∧
  (∀ (xs : List Tl1Cur), ouBL (xs.map (e_Tl1Cur .u)) = true) ∧
  (∀ (x : List Int), (e_Li .o x).fz = true) ∧
  (∀ (xs : List (List Int)), fzL (xs.map (e_Li .o)) = true) ∧
  (∀ (x : List Int), (e_Li .u x).ouB = true) ∧
  (∀ (xs : List (List Int)), ouBL (xs.map (e_Li .u)) = true) :=
  ⟨@e_TTributary_fz, @e_TTributary_fzm, @e_TTributary_ou, @e_TTributary_oum, @e_Tl1Cur_fz, @e_Tl1Cur_fzm, @e_Tl1Cur_ou, @e_Tl1Cur_oum, @e_Li_fz, @e_Li_fzm, @e_Li_ou, @e_Li_oum⟩
theorem Zr {α : Type} (n : Nat) (a : α) : (List.replicate n a).length = n := List.length_replicate
theorem ZA {A B : Prop} (a : A) (b : B) : A ∧ B := ⟨a, b⟩
theorem ZF {A : Prop} (a : A) {P Q : Prop} (k : Q) (e : A → P = Q := by intro a; simp only [VS1, VS2, VS3, VS4, VS5, VS6, VT1, VT2, finM_ret, finM_nrm, decide_true, decide_false, List.nodup_nil, List.nodup_cons, oks_p, oks_m, oks_h, ne_eq, not_false_eq_true, Int.reduceEq, Int.reduceNe, true_and, Nat.reduceSub, Nat.reduceMul, ↓reduceIte, reduceCtorEq, Nat.reduceEqDiff, Nat.reduceAdd, Nat.reduceLeDiff, Int.reduceLE, a]; exact Eq.refl _) : P := (e a).mpr k
theorem ZG {P Q : Prop} (k : Q) (e : P = Q := by simp only [VA, VF1, ↓reduceIte, Nat.reduceEqDiff, Nat.reduceAdd, Nat.reduceMul, Nat.reduceSub, Nat.reduceLeDiff]; exact Eq.refl _) : P := e.mpr k
theorem ZL {A : Prop} (a : A) {B : Prop} (b : B) {P : Prop} (e : A → B → P := by intro a b; (try simp only [VS1, VS2, VS3, VS4, VS5, VS6, VT1, VT2, finM_ret, finM_nrm, decide_true, decide_false, List.nodup_nil, List.nodup_cons, oks_p, oks_m, oks_h, ne_eq, not_false_eq_true, Int.reduceEq, Int.reduceNe, true_and, Nat.reduceSub, Nat.reduceMul, ↓reduceIte, reduceCtorEq, Nat.reduceEqDiff, Nat.reduceAdd, Nat.reduceLeDiff, Int.reduceLE, a]); all_goals simp [qL, qJ, qJ0, qS, qX, qR, qM, Shp, sub, tupd, finM_ret, finM_nrm, VS1, VS2, VS3, VS4, VS5, VS6, VT1, VT2, b]) : P := e a b
theorem ZK {B : Prop} (b : B) {P : Prop} (e : B → P := by intro b; simp [qL, qJ, qJ0, qS, qX, qR, qM, Shp, sub, tupd, finM_ret, finM_nrm, VS1, VS2, VS3, VS4, VS5, VS6, VT1, VT2, b]) : P := e b
theorem ZS {A : Prop} (a : A) {W : Prop} (w : W) {ok : Oks} {ρ : Nat → Option Row} {d f : Nat} {args : List AV} {K : AV → List (Nat × Row) → Prop} {v : Value} (hk : K (.sc v) [])
    (e : A → W → ok.p f (args.map (snp ρ 4)) (.sc v) := by intro a w; simp only [VS1, VS2, VS3, VS4, VS5, VS6, VT1, VT2, finM_ret, finM_nrm, decide_true, decide_false, List.nodup_nil, List.nodup_cons, oks_p, oks_m, oks_h, ne_eq, not_false_eq_true, Int.reduceEq, Int.reduceNe, true_and, Nat.reduceSub, Nat.reduceMul, ↓reduceIte, reduceCtorEq, Nat.reduceEqDiff, Nat.reduceAdd, Nat.reduceLeDiff, Int.reduceLE, a]; exact w) : callA ok ρ d f args K := call_s (e a w) hk
theorem ZU {A : Prop} (a : A) {W : Prop} (w : W) {ok : Oks} {ρ : Nat → Option Row} {d f : Nat} {args : List AV} {K : AV → List (Nat × Row) → Prop} {res : AV} (hk : K (adopt 4 d res).1 (adopt 4 d res).2.1)
    (e : A → W → ok.p f (args.map (snp ρ 4)) res := by intro a w; simp only [VS1, VS2, VS3, VS4, VS5, VS6, VT1, VT2, finM_ret, finM_nrm, decide_true, decide_false, List.nodup_nil, List.nodup_cons, oks_p, oks_m, oks_h, ne_eq, not_false_eq_true, Int.reduceEq, Int.reduceNe, true_and, Nat.reduceSub, Nat.reduceMul, ↓reduceIte, reduceCtorEq, Nat.reduceEqDiff, Nat.reduceAdd, Nat.reduceLeDiff, Int.reduceLE, a]; exact w) (hu : res.allU := by simp [AV.allU, allUL, allUL_iff, VT1, VT2]) (hn : ∀ p ∈ (adopt 4 d res).2.1, ρ p.1 = none ∧ p.1 < 1000000000 := by simp only [VS1, VS2, VS3, VS4, VS5, VS6, VT1, VT2, finM_ret, finM_nrm, decide_true, decide_false, List.nodup_nil, List.nodup_cons, oks_p, oks_m, oks_h, ne_eq, not_false_eq_true, Int.reduceEq, Int.reduceNe, true_and, Nat.reduceSub, Nat.reduceMul, ↓reduceIte, reduceCtorEq, Nat.reduceEqDiff, Nat.reduceAdd, Nat.reduceLeDiff, Int.reduceLE, Nat.reduceLT]) : callA ok ρ d f args K := call_u (e a w) hu hn hk
theorem ZQ {P : Prop} (e : P := by simp [VS1, VS2, VS3, VS4, VS5, VS6, VT1, VT2]) : P := e
theorem ZW {A : Prop} (a : A) {W : Prop} (w : W) {ok : Oks} {ρ : Nat → Option Row} {d f : Nat} {args : List AV} {rs : List Nat} {K : AV → List (Nat × Row) → Prop} {res : AV} {outs : List (Nat × Row)}
    (e : A → W → ok.m f (args.map (AV.rg (cnm rs))) (rs.map (rowIn ρ rs)) res outs := by intro a w; simp only [VS1, VS2, VS3, VS4, VS5, VS6, VT1, VT2, finM_ret, finM_nrm, decide_true, decide_false, List.nodup_nil, List.nodup_cons, oks_p, oks_m, oks_h, ne_eq, not_false_eq_true, Int.reduceEq, Int.reduceNe, true_and, Nat.reduceSub, Nat.reduceMul, ↓reduceIte, reduceCtorEq, Nat.reduceEqDiff, Nat.reduceAdd, Nat.reduceLeDiff, Int.reduceLE, a]; first | exact w | (simp only [VS1, VS2, VS3, VS4, VS5, VS6, VT1, VT2, finM_ret, finM_nrm, decide_true, decide_false, List.nodup_nil, List.nodup_cons, oks_p, oks_m, oks_h, ne_eq, not_false_eq_true, Int.reduceEq, Int.reduceNe, true_and, Nat.reduceSub, Nat.reduceMul, ↓reduceIte, reduceCtorEq, Nat.reduceEqDiff, Nat.reduceAdd, Nat.reduceLeDiff, Int.reduceLE, a] at w; exact w))
    (h1 : rs.Nodup ∧ (∀ r ∈ rs, isLive (ρ r)) ∧ (∀ r ∈ rs, ∀ q ∈ oments (ρ r), q ∈ rs) ∧ (∀ r ∈ mentsL args, r ∈ rs) := by simp [VS1, VS2, VS3, VS4, VS5, VS6, VT1, VT2])
    (h2 : (outs.map fun p => bkn d rs p.1).Nodup ∧ (∀ p ∈ outs, 1000000000 ≤ p.1 → p.1 - 1000000000 < rs.length) ∧ (∀ p ∈ outs, p.1 < 1000000000 → ρ (bkn d rs p.1) = none ∧ bkn d rs p.1 < 1000000000))
    (hk : K (res.rg (bkn d rs)) (gone rs ++ outs.map (rowBk d rs))) : callM ok ρ d f args rs K := call_m (e a w) h1 h2 hk
theorem w_laws_vBig (codeZ0 : List Int) {r : Bool} (h : M_laws_vBig codeZ0 = some r) : Ok Try.prog 43 [.lst .o 1 (codeZ0.map AV.u8)] ((fun r => .b r) r) := by
  refine ok_of_body hmix m43 rfl ?_
  unfold M_laws_vBig at h
  simp only [ZC, A43, V43, body_eq]
  cases h
  exact ZL trivial V43.eq_1
theorem w_spec_l1Cur_nextM1 (aaZ0 : Tl1Cur) {r : Int × Tl1Cur} (h : M_spec_l1Cur_nextM1 aaZ0 = some r) : OkM Try.prog 116 [.pt 1000000000 0 0] [(1000000000, .var (.agg [.lst .o 1 (((aaZ0).code).map AV.u8), .i ((aaZ0).atF), .sc (.int .u64 ((aaZ0).seed))]))] ((fun (r : Int × Tl1Cur) => .i r.1) r) ((fun (r : Int × Tl1Cur) => [(1000000000, .var (.agg [.lst .o 1 (((r.2).code).map AV.u8), .i ((r.2).atF), .sc (.int .u64 ((r.2).seed))]))]) r) := by
  refine okM_of_body (lr := [1000000000]) hmix m116M1 rfl rfl ?_
  unfold M_spec_l1Cur_nextM1 at h
  simp only [ZC, A116M1, V116M1]
  obtain ⟨oZ3, hoZ3, h⟩ := bind_s h
  try refine ZF trivial ?_
  refine join_rule0 (sh := (fun v => ⟨[(0, .pt 1000000000 0 0), (3, .i v)], [(1000000000, .var (.agg [.lst .o 1 (((aaZ0).code).map AV.u8), .i ((aaZ0).atF), .sc (.int .u64 ((aaZ0).seed))]))]⟩)) (s := oZ3) ?_ ?_
  · replace h := hoZ3
    obtain ⟨cZ1, h⟩ | ⟨cZ1, h⟩ := cond_s h
    · obtain ⟨yZ2, hyZ2, h⟩ := bind_s h
      obtain ⟨hyZ2a, hyZ2b⟩ := geti_s hyZ2
      cases h
      exact ZL (ZA cZ1 (ZA hyZ2a hyZ2b)) trivial
    · cases h
      exact ZL cZ1 trivial
  · simp only [ZC, A116M1R1]
    obtain ⟨cZ4, h⟩ | ⟨cZ4, h⟩ := cond_s h
    · cases h
      exact ZL cZ4 V116M1.eq_1
    · cases h
      exact ZL cZ4 V116M1.eq_1
theorem w_spec_l1Cur_pickM1 (aaZ0 : Int) (abZ0 : Tl1Cur) {r : Int × Tl1Cur} (h : M_spec_l1Cur_pickM1 aaZ0 abZ0 = some r) : OkM Try.prog 107 [.pt 1000000000 0 0, .i aaZ0] [(1000000000, .var (.agg [.lst .o 1 (((abZ0).code).map AV.u8), .i ((abZ0).atF), .sc (.int .u64 ((abZ0).seed))]))] ((fun (r : Int × Tl1Cur) => .i r.1) r) ((fun (r : Int × Tl1Cur) => [(1000000000, .var (.agg [.lst .o 1 (((r.2).code).map AV.u8), .i ((r.2).atF), .sc (.int .u64 ((r.2).seed))]))]) r) := by
  refine okM_of_body (lr := [1000000000]) hmix m107M1 rfl rfl ?_
  unfold M_spec_l1Cur_pickM1 at h
  simp only [ZC, A107M1, V107M1]
  obtain ⟨cZ1, h⟩ | ⟨cZ1, h⟩ := cond_s h
  · cases h
    exact ZL cZ1 V107M1.eq_1
  · obtain ⟨rZ2, hrZ2, h⟩ := bind_s h
    refine ZF cZ1 ?_
    refine ZW cZ1 (w_spec_l1Cur_nextM1 _ hrZ2) (h2 := by first | exact nm_ok [1000000000] rfl (by decide +kernel) | exact nm_ok2 [1000000000] [] rfl (by decide +kernel) ZQ | exact ZQ) (hk := ?_)
    refine ZG ?_
    obtain ⟨cZ3, h⟩ | ⟨cZ3, h⟩ := cond_s h
    · obtain ⟨rZ4, hrZ4, h⟩ := bind_s h
      refine ZF (ZA cZ1 cZ3) ?_
      refine ZW (ZA cZ1 cZ3) (w_spec_l1Cur_nextM1 _ hrZ4) (h2 := by first | exact nm_ok [1000000000] rfl (by decide +kernel) | exact nm_ok2 [1000000000] [] rfl (by decide +kernel) ZQ | exact ZQ) (hk := ?_)
      refine ZG ?_
      obtain ⟨uZ5, huZ5, h⟩ := bind_s h
      have huZ5g := grd_s huZ5
      cases h
      exact ZL (ZA cZ1 (ZA cZ3 huZ5g)) V107M1.eq_1
    · obtain ⟨uZ6, huZ6, h⟩ := bind_s h
      have huZ6g := grd_s huZ6
      cases h
      exact ZL (ZA cZ1 (ZA cZ3 huZ6g)) V107M1.eq_1
theorem w_spec_l1Cur_amongM1 (aaZ0 : Nat) (abZ0 : Nat) (acZ0 : Tl1Cur) (adZ0 : List Int) {r : Int × Tl1Cur × List Int} (h : M_spec_l1Cur_amongM1 aaZ0 abZ0 acZ0 adZ0 = some r) : OkM Try.prog 84 [.pt 1000000000 0 0, .sl 1000000001 aaZ0 abZ0] [(1000000000, .var (.agg [.lst .o 1 (((acZ0).code).map AV.u8), .i ((acZ0).atF), .sc (.int .u64 ((acZ0).seed))])), (1000000001, .arr 1 (adZ0.map AV.i))] ((fun (r : Int × Tl1Cur × List Int) => .i r.1) r) ((fun (r : Int × Tl1Cur × List Int) => [(1000000000, .var (.agg [.lst .o 1 (((r.2.1).code).map AV.u8), .i ((r.2.1).atF), .sc (.int .u64 ((r.2.1).seed))])), (1000000001, .arr 1 (r.2.2.map AV.i))]) r) := by
  refine okM_of_body (lr := [1000000000, 1000000001]) hmix m84M1 rfl rfl ?_
  unfold M_spec_l1Cur_amongM1 at h
  simp only [ZC, A84M1, V84M1]
  obtain ⟨rZ1, hrZ1, h⟩ := bind_s h
  refine ZF trivial ?_
  refine ZW trivial (w_spec_l1Cur_pickM1 _ _ hrZ1) (h2 := by first | exact nm_ok [1000000000] rfl (by decide +kernel) | exact nm_ok2 [1000000000] [] rfl (by decide +kernel) ZQ | exact ZQ) (hk := ?_)
  refine ZG ?_
  obtain ⟨kZ2, hkZ2, h⟩ := bind_s h
  obtain ⟨hkZ2a, hkZ2b⟩ := grd_s hkZ2
  obtain ⟨yZ3, hyZ3, h⟩ := bind_s h
  cases h
  exact ZL (ZA hkZ2a (ZA hkZ2b hyZ3)) V84M1.eq_1
theorem w_spec_l1Cur_nodes18M1 (aaZ0 : Tl1Cur) {r : Int × Tl1Cur} (h : M_spec_l1Cur_nodes18M1 aaZ0 = some r) : OkM Try.prog 81 [.pt 1000000000 0 0] [(1000000000, .var (.agg [.lst .o 1 (((aaZ0).code).map AV.u8), .i ((aaZ0).atF), .sc (.int .u64 ((aaZ0).seed))]))] ((fun (r : Int × Tl1Cur) => .i r.1) r) ((fun (r : Int × Tl1Cur) => [(1000000000, .var (.agg [.lst .o 1 (((r.2).code).map AV.u8), .i ((r.2).atF), .sc (.int .u64 ((r.2).seed))]))]) r) := by
  refine okM_of_body (lr := [1000000000]) hmix m81M1 rfl rfl ?_
  unfold M_spec_l1Cur_nodes18M1 at h
  simp only [ZC, A81M1, V81M1]
  obtain ⟨lZ1, hlZ1, h⟩ := bnd_s h
  have eZ2 : Row.arr 1 [(.i 2 : AV), (.i 3 : AV), (.i 4 : AV), (.i 5 : AV), (.i 6 : AV), (.i 8 : AV), (.i 1 : AV), (.i 9 : AV)] = Row.arr 1 (lZ1.map AV.i) := by rw [← hlZ1]; rfl
  have eZ3 : lZ1.length = 8 := by rw [← hlZ1]; rfl
  obtain ⟨rZ4, hrZ4, h⟩ := bind_s h
  refine ZF (ZA eZ2 eZ3) ?_
  refine ZW (ZA eZ2 eZ3) (w_spec_l1Cur_pickM1 _ _ hrZ4) (h2 := by first | exact nm_ok [1000000000] rfl (by decide +kernel) | exact nm_ok2 [1000000000] [] rfl (by decide +kernel) ZQ | exact ZQ) (hk := ?_)
  refine ZG ?_
  obtain ⟨uZ5, huZ5, h⟩ := bind_s h
  have huZ5g := grd_s huZ5
  obtain ⟨uZ6, huZ6, h⟩ := bind_s h
  obtain ⟨huZ6a, huZ6b, huZ6c, huZ6d⟩ := grd_s huZ6
  obtain ⟨rZ7, hrZ7, h⟩ := bind_s h
  refine ZF (ZA eZ2 (ZA eZ3 (ZA huZ5g (ZA huZ6a (ZA huZ6b (ZA huZ6c huZ6d)))))) ?_
  refine ZW (ZA eZ2 (ZA eZ3 (ZA huZ5g (ZA huZ6a (ZA huZ6b (ZA huZ6c huZ6d)))))) (w_spec_l1Cur_amongM1 _ _ _ _ hrZ7) (h2 := by first | exact nm_ok [1000000000, 1000000001] rfl (by decide +kernel) | exact nm_ok2 [1000000000, 1000000001] [] rfl (by decide +kernel) ZQ | exact ZQ) (hk := ?_)
  refine ZG ?_
  cases h
  exact ZL (ZA eZ2 (ZA eZ3 (ZA huZ5g (ZA huZ6a (ZA huZ6b (ZA huZ6c huZ6d)))))) (ZA V81M1.eq_1 hlZ1.symm)
theorem w_spec_l1Most (aZ0 : Int) (bZ0 : Int) {r : Int} (h : M_spec_l1Most aZ0 bZ0 = some r) : Ok Try.prog 88 [.i aZ0, .i bZ0] ((fun r => .i r) r) := by
  refine ok_of_body hmix m88 rfl ?_
  unfold M_spec_l1Most at h
  simp only [ZC, A88, V88, body_eq]
  obtain ⟨cZ1, h⟩ | ⟨cZ1, h⟩ := cond_s h
  · cases h
    exact ZL cZ1 V88.eq_1
  · cases h
    exact ZL cZ1 V88.eq_1
theorem w_spec_l1Cur_amongM2 (aaZ0 : Tl1Cur) (abZ0 : List Int) {r : Int × Tl1Cur × List Int} (h : M_spec_l1Cur_amongM2 aaZ0 abZ0 = some r) : OkM Try.prog 84 [.pt 1000000000 0 0, .sl 1000000001 0 abZ0.length] [(1000000000, .var (.agg [.lst .o 1 (((aaZ0).code).map AV.u8), .i ((aaZ0).atF), .sc (.int .u64 ((aaZ0).seed))])), (1000000001, .arr 1 (abZ0.map AV.i))] ((fun (r : Int × Tl1Cur × List Int) => .i r.1) r) ((fun (r : Int × Tl1Cur × List Int) => [(1000000000, .var (.agg [.lst .o 1 (((r.2.1).code).map AV.u8), .i ((r.2.1).atF), .sc (.int .u64 ((r.2.1).seed))])), (1000000001, .arr 1 (r.2.2.map AV.i))]) r) := by
  refine okM_of_body (lr := [1000000000, 1000000001]) hmix m84M2 rfl rfl ?_
  unfold M_spec_l1Cur_amongM2 at h
  simp only [ZC, A84M2, V84M2]
  obtain ⟨rZ1, hrZ1, h⟩ := bind_s h
  refine ZF trivial ?_
  refine ZW trivial (w_spec_l1Cur_pickM1 _ _ hrZ1) (h2 := by first | exact nm_ok [1000000000] rfl (by decide +kernel) | exact nm_ok2 [1000000000] [] rfl (by decide +kernel) ZQ | exact ZQ) (hk := ?_)
  refine ZG ?_
  obtain ⟨kZ2, hkZ2, h⟩ := bind_s h
  obtain ⟨hkZ2a, hkZ2b⟩ := grd_s hkZ2
  obtain ⟨yZ3, hyZ3, h⟩ := bind_s h
  cases h
  exact ZL (ZA hkZ2a (ZA hkZ2b hyZ3)) V84M2.eq_1
def S_spec_l1Cur_tributariesM1L1 (rZ1 : Int) (v : Int × List TTributary × Tl1Cur) : St := ⟨[(0, .pt 1000000000 0 0), (5, .sl 5 0 v.2.1.length), (6, .i rZ1), (7, .i v.1)], [(5, .arr 3 (v.2.1.map (e_TTributary .u))), (1000000000, .var (.agg [.lst .o 1 (((v.2.2).code).map AV.u8), .i ((v.2.2).atF), .sc (.int .u64 ((v.2.2).seed))]))]⟩
def SX_spec_l1Cur_tributariesM1L1 (v : List TTributary × Tl1Cur) : St := ⟨[(0, .pt 1000000000 0 0), (5, .sl 5 0 v.1.length)], [(5, .arr 3 (v.1.map (e_TTributary .u))), (1000000000, .var (.agg [.lst .o 1 (((v.2).code).map AV.u8), .i ((v.2).atF), .sc (.int .u64 ((v.2).seed))]))]⟩
theorem w_spec_l1Cur_tributariesM1L1 (rZ1 : Int) (sZ3 : Int × List TTributary × Tl1Cur) (o : (Int × List TTributary × Tl1Cur) ⊕ (List TTributary × Tl1Cur)) (h : M_spec_l1Cur_tributariesM1L1 rZ1 sZ3 = some o) : AWP (OkS Try.prog) A83M1L1 (qL [0, 5, 6, 7] [5, 1000000000] (S_spec_l1Cur_tributariesM1L1 rZ1) (qX 0 [0, 5] [5, 1000000000] (SX_spec_l1Cur_tributariesM1L1)) o) (S_spec_l1Cur_tributariesM1L1 rZ1 sZ3) := by
  unfold M_spec_l1Cur_tributariesM1L1 at h
  simp only [ZC, S_spec_l1Cur_tributariesM1L1, A83M1L1]
  obtain ⟨cZ4, h⟩ | ⟨cZ4, h⟩ := cond_s h
  · obtain ⟨rZ5, hrZ5, h⟩ := bind_s h
    refine ZF cZ4 ?_
    refine ZW cZ4 (w_spec_l1Cur_pickM1 _ _ hrZ5) (h2 := by first | exact nm_ok [1000000000] rfl (by decide +kernel) | exact nm_ok2 [1000000000] [] rfl (by decide +kernel) ZQ | exact ZQ) (hk := ?_)
    refine ZG ?_
    obtain ⟨rZ6, hrZ6, h⟩ := bind_s h
    refine ZF cZ4 ?_
    refine ZW cZ4 (w_spec_l1Cur_pickM1 _ _ hrZ6) (h2 := by first | exact nm_ok [1000000000] rfl (by decide +kernel) | exact nm_ok2 [1000000000] [] rfl (by decide +kernel) ZQ | exact ZQ) (hk := ?_)
    refine ZG ?_
    obtain ⟨uZ7, huZ7, h⟩ := bind_s h
    have huZ7g := grd_s huZ7
    obtain ⟨lZ8, hlZ8, h⟩ := bnd_s h
    have eZ9 : Row.arr 1 [(.i 1 : AV), (.i 2 : AV), (.i 3 : AV), (.i 4 : AV), (.i 5 : AV), (.i 6 : AV), (.i 7 : AV), (.i 10 : AV)] = Row.arr 1 (lZ8.map AV.i) := by rw [← hlZ8]; rfl
    have eZ10 : lZ8.length = 8 := by rw [← hlZ8]; rfl
    obtain ⟨rZ11, hrZ11, h⟩ := bind_s h
    refine ZF (ZA cZ4 (ZA huZ7g (ZA eZ9 eZ10))) ?_
    refine ZW (ZA cZ4 (ZA huZ7g (ZA eZ9 eZ10))) (w_spec_l1Cur_amongM2 _ _ hrZ11) (h2 := by first | exact nm_ok [1000000000, 1000000001] rfl (by decide +kernel) | exact nm_ok2 [1000000000, 1000000001] [] rfl (by decide +kernel) ZQ | exact ZQ) (hk := ?_)
    refine ZG ?_
    obtain ⟨lZ12, hlZ12, h⟩ := bnd_s h
    have eZ13 : Row.arr 3 [(.agg [.i rZ5.1, .i (Int.tmod (IntKind.wrap .i64 ((IntKind.wrap .i64 (rZ5.1 + 1)) + rZ6.1)) rZ1), .i rZ11.1] : AV)] = Row.arr 3 (lZ12.map (e_TTributary .u)) := by rw [← hlZ12]; rfl
    have eZ14 : lZ12.length = 1 := by rw [← hlZ12]; rfl
    obtain ⟨uZ15, huZ15, h⟩ := bind_s h
    have huZ15g := grd_s huZ15
    obtain ⟨lZ16, hlZ16, h⟩ := bnd_s h
    have eZ17 : sZ3.2.1.map (e_TTributary .u) ++ lZ12.map (e_TTributary .u) = lZ16.map (e_TTributary .u) := by rw [← hlZ16, List.map_append]
    have eZ18 : sZ3.2.1.length + 1 = lZ16.length := by simp [← hlZ8, ← hlZ12, ← hlZ16] <;> omega
    rw [eZ18] at huZ15g
    cases h
    exact ZL (ZA cZ4 (ZA huZ7g (ZA eZ9 (ZA eZ10 (ZA eZ13 (ZA eZ14 (ZA huZ15g (ZA eZ17 eZ18)))))))) (ZA S_spec_l1Cur_tributariesM1L1.eq_1 (ZA SX_spec_l1Cur_tributariesM1L1.eq_1 (ZA hlZ8.symm (ZA hlZ12.symm hlZ16.symm))))
  · cases h
    exact ZL cZ4 (ZA S_spec_l1Cur_tributariesM1L1.eq_1 SX_spec_l1Cur_tributariesM1L1.eq_1)
def S_spec_l1Cur_tributariesM1L2 (v : List TTributary × Tl1Cur) : St := ⟨[(0, .pt 1000000000 0 0), (5, .sl 5 0 v.1.length)], [(5, .arr 3 (v.1.map (e_TTributary .u))), (1000000000, .var (.agg [.lst .o 1 (((v.2).code).map AV.u8), .i ((v.2).atF), .sc (.int .u64 ((v.2).seed))]))]⟩
def SX_spec_l1Cur_tributariesM1L2 (v : List TTributary × Tl1Cur) : St := ⟨[(5, .sl 5 0 v.1.length)], [(5, .arr 3 (v.1.map (e_TTributary .u))), (1000000000, .var (.agg [.lst .o 1 (((v.2).code).map AV.u8), .i ((v.2).atF), .sc (.int .u64 ((v.2).seed))]))]⟩
theorem w_spec_l1Cur_tributariesM1L2 (sZ46 : List TTributary × Tl1Cur) (o : (List TTributary × Tl1Cur) ⊕ (List TTributary × Tl1Cur)) (h : M_spec_l1Cur_tributariesM1L2 sZ46 = some o) : AWP (OkS Try.prog) A83M1L3 (qL [0, 5] [5, 1000000000] (S_spec_l1Cur_tributariesM1L2) (qX 3 [5] [5, 1000000000] (SX_spec_l1Cur_tributariesM1L2)) o) (S_spec_l1Cur_tributariesM1L2 sZ46) := by
  unfold M_spec_l1Cur_tributariesM1L2 at h
  simp only [ZC, S_spec_l1Cur_tributariesM1L2, A83M1L3]
  obtain ⟨rZ47, hrZ47, h⟩ := bind_s h
  refine ZF trivial ?_
  refine ZW trivial (w_spec_l1Cur_pickM1 _ _ hrZ47) (h2 := by first | exact nm_ok [1000000000] rfl (by decide +kernel) | exact nm_ok2 [1000000000] [] rfl (by decide +kernel) ZQ | exact ZQ) (hk := ?_)
  refine ZG ?_
  obtain ⟨cZ48, h⟩ | ⟨cZ48, h⟩ := cond_s h
  · obtain ⟨lZ49, hlZ49, h⟩ := bnd_s h
    have eZ50 : Row.arr 3 [(.agg [.i 0, .i 1, .i 1] : AV)] = Row.arr 3 (lZ49.map (e_TTributary .u)) := by rw [← hlZ49]; rfl
    have eZ51 : lZ49.length = 1 := by rw [← hlZ49]; rfl
    obtain ⟨uZ52, huZ52, h⟩ := bind_s h
    have huZ52g := grd_s huZ52
    obtain ⟨lZ53, hlZ53, h⟩ := bnd_s h
    have eZ54 : sZ46.1.map (e_TTributary .u) ++ lZ49.map (e_TTributary .u) = lZ53.map (e_TTributary .u) := by rw [← hlZ53, List.map_append]
    have eZ55 : sZ46.1.length + 1 = lZ53.length := by simp [← hlZ49, ← hlZ53] <;> omega
    rw [eZ55] at huZ52g
    cases h
    exact ZL (ZA cZ48 (ZA eZ50 (ZA eZ51 (ZA huZ52g (ZA eZ54 eZ55))))) (ZA S_spec_l1Cur_tributariesM1L2.eq_1 (ZA SX_spec_l1Cur_tributariesM1L2.eq_1 (ZA hlZ49.symm hlZ53.symm)))
  · cases h
    exact ZL cZ48 (ZA S_spec_l1Cur_tributariesM1L2.eq_1 SX_spec_l1Cur_tributariesM1L2.eq_1)
theorem w_spec_l1Cur_tributariesM1 (aaZ0 : Int) (abZ0 : Tl1Cur) {r : List TTributary × Tl1Cur} (h : M_spec_l1Cur_tributariesM1 aaZ0 abZ0 = some r) : OkM Try.prog 83 [.pt 1000000000 0 0, .i aaZ0] [(1000000000, .var (.agg [.lst .o 1 (((abZ0).code).map AV.u8), .i ((abZ0).atF), .sc (.int .u64 ((abZ0).seed))]))] ((fun (r : List TTributary × Tl1Cur) => .sl 4 0 r.1.length) r) ((fun (r : List TTributary × Tl1Cur) => [(4, .arr 3 (r.1.map (e_TTributary .u))), (1000000000, .var (.agg [.lst .o 1 (((r.2).code).map AV.u8), .i ((r.2).atF), .sc (.int .u64 ((r.2).seed))]))]) r) := by
  refine okM_of_body (lr := [4, 1000000000]) hmix m83M1 rfl rfl ?_
  unfold M_spec_l1Cur_tributariesM1 at h
  simp only [ZC, A83M1, V83M1]
  obtain ⟨rZ1, hrZ1, h⟩ := bind_s h
  refine ZF trivial ?_
  refine ZS trivial (w_spec_l1Most _ _ hrZ1) ?_
  refine ZG ?_
  obtain ⟨rZ2, hrZ2, h⟩ := bind_s h
  refine ZF trivial ?_
  refine ZW trivial (w_spec_l1Cur_pickM1 _ _ hrZ2) (h2 := by first | exact nm_ok [1000000000] rfl (by decide +kernel) | exact nm_ok2 [1000000000] [] rfl (by decide +kernel) ZQ | exact ZQ) (hk := ?_)
  refine ZG ?_
  obtain ⟨oZ19, hoZ19, h⟩ := bind_s h
  try refine ZF trivial ?_
  refine join_rule0 (blk_rule0 (loop_rule (w_spec_l1Cur_tributariesM1L1 rZ1) hoZ19 ?_)) ?_
  · exact ZK (ZA S_spec_l1Cur_tributariesM1L1.eq_1 SX_spec_l1Cur_tributariesM1L1.eq_1)
  · simp only [ZC, SX_spec_l1Cur_tributariesM1L1, A83M1R2]
    obtain ⟨oZ58, hoZ58, h⟩ := bind_s h
    try refine ZF trivial ?_
    refine join_rule0 (sh := (fun v => ⟨[(5, .sl 5 0 v.1.length)], [(5, .arr 3 (v.1.map (e_TTributary .u))), (1000000000, .var (.agg [.lst .o 1 (((v.2).code).map AV.u8), .i ((v.2).atF), .sc (.int .u64 ((v.2).seed))]))]⟩)) (s := oZ58) ?_ ?_
    · replace h := hoZ58
      obtain ⟨rZ20, hrZ20, h⟩ := bind_s h
      refine ZF trivial ?_
      refine ZW trivial (w_spec_l1Cur_pickM1 _ _ hrZ20) (h2 := by first | exact nm_ok [1000000000] rfl (by decide +kernel) | exact nm_ok2 [1000000000] [] rfl (by decide +kernel) ZQ | exact ZQ) (hk := ?_)
      refine ZG ?_
      obtain ⟨cZ21, h⟩ | ⟨cZ21, h⟩ := cond_s h
      · obtain ⟨lZ22, hlZ22, h⟩ := bnd_s h
        have eZ23 : Row.arr 1 [(.i 0 : AV), (.i 8 : AV), (.i (-1) : AV)] = Row.arr 1 (lZ22.map AV.i) := by rw [← hlZ22]; rfl
        have eZ24 : lZ22.length = 3 := by rw [← hlZ22]; rfl
        obtain ⟨rZ25, hrZ25, h⟩ := bind_s h
        refine ZF (ZA cZ21 (ZA eZ23 eZ24)) ?_
        refine ZW (ZA cZ21 (ZA eZ23 eZ24)) (w_spec_l1Cur_amongM2 _ _ hrZ25) (h2 := by first | exact nm_ok [1000000000, 1000000001] rfl (by decide +kernel) | exact nm_ok2 [1000000000, 1000000001] [] rfl (by decide +kernel) ZQ | exact ZQ) (hk := ?_)
        refine ZG ?_
        obtain ⟨lZ26, hlZ26, h⟩ := bnd_s h
        have eZ27 : Row.arr 3 [(.agg [.i 0, .i rZ25.1, .i 1] : AV)] = Row.arr 3 (lZ26.map (e_TTributary .u)) := by rw [← hlZ26]; rfl
        have eZ28 : lZ26.length = 1 := by rw [← hlZ26]; rfl
        obtain ⟨uZ29, huZ29, h⟩ := bind_s h
        have huZ29g := grd_s huZ29
        obtain ⟨lZ30, hlZ30, h⟩ := bnd_s h
        have eZ31 : oZ19.1.map (e_TTributary .u) ++ lZ26.map (e_TTributary .u) = lZ30.map (e_TTributary .u) := by rw [← hlZ30, List.map_append]
        have eZ32 : oZ19.1.length + 1 = lZ30.length := by simp [← hlZ22, ← hlZ26, ← hlZ30] <;> omega
        rw [eZ32] at huZ29g
        cases h
        exact ZL (ZA cZ21 (ZA eZ23 (ZA eZ24 (ZA eZ27 (ZA eZ28 (ZA huZ29g (ZA eZ31 eZ32))))))) (ZA hlZ22.symm (ZA hlZ26.symm hlZ30.symm))
      · obtain ⟨cZ33, h⟩ | ⟨cZ33, h⟩ := cond_s h
        · obtain ⟨lZ34, hlZ34, h⟩ := bnd_s h
          have eZ35 : Row.arr 1 [(.i 0 : AV), (.i 1001 : AV), (.i 1000 : AV)] = Row.arr 1 (lZ34.map AV.i) := by rw [← hlZ34]; rfl
          have eZ36 : lZ34.length = 3 := by rw [← hlZ34]; rfl
          obtain ⟨rZ37, hrZ37, h⟩ := bind_s h
          refine ZF (ZA cZ21 (ZA cZ33 (ZA eZ35 eZ36))) ?_
          refine ZW (ZA cZ21 (ZA cZ33 (ZA eZ35 eZ36))) (w_spec_l1Cur_amongM2 _ _ hrZ37) (h2 := by first | exact nm_ok [1000000000, 1000000001] rfl (by decide +kernel) | exact nm_ok2 [1000000000, 1000000001] [] rfl (by decide +kernel) ZQ | exact ZQ) (hk := ?_)
          refine ZG ?_
          obtain ⟨lZ38, hlZ38, h⟩ := bnd_s h
          have eZ39 : Row.arr 3 [(.agg [.i 0, .i 1, .i rZ37.1] : AV)] = Row.arr 3 (lZ38.map (e_TTributary .u)) := by rw [← hlZ38]; rfl
          have eZ40 : lZ38.length = 1 := by rw [← hlZ38]; rfl
          obtain ⟨uZ41, huZ41, h⟩ := bind_s h
          have huZ41g := grd_s huZ41
          obtain ⟨lZ42, hlZ42, h⟩ := bnd_s h
          have eZ43 : oZ19.1.map (e_TTributary .u) ++ lZ38.map (e_TTributary .u) = lZ42.map (e_TTributary .u) := by rw [← hlZ42, List.map_append]
          have eZ44 : oZ19.1.length + 1 = lZ42.length := by simp [← hlZ34, ← hlZ38, ← hlZ42] <;> omega
          rw [eZ44] at huZ41g
          cases h
          exact ZL (ZA cZ21 (ZA cZ33 (ZA eZ35 (ZA eZ36 (ZA eZ39 (ZA eZ40 (ZA huZ41g (ZA eZ43 eZ44)))))))) (ZA hlZ34.symm (ZA hlZ38.symm hlZ42.symm))
        · obtain ⟨cZ45, h⟩ | ⟨cZ45, h⟩ := cond_s h
          · obtain ⟨oZ56, hoZ56, h⟩ := bind_s h
            try refine ZF (ZA cZ21 (ZA cZ33 cZ45)) ?_
            first | refine tail_rule0 (blk_rule0 (loop_rule (w_spec_l1Cur_tributariesM1L2) hoZ56 ?_)) (fun τ qZ57 => ?_) | refine tail_blk0 (loop_rule (w_spec_l1Cur_tributariesM1L2) hoZ56 ?_) (fun τ qZ57 => ?_)
            · exact ZK (ZA S_spec_l1Cur_tributariesM1L2.eq_1 SX_spec_l1Cur_tributariesM1L2.eq_1)
            · cases h
              try refine ZF trivial ?_
              refine ⟨rfl, Shp.sub qZ57 (by decide) (by decide) ?_⟩
              exact ZK SX_spec_l1Cur_tributariesM1L2.eq_1
          · cases h
            exact ZL (ZA cZ21 (ZA cZ33 cZ45)) trivial
    · simp only [ZC, A83M1R4]
      cases h
      exact ZL trivial V83M1.eq_1
theorem w_spec_DrawGroomDirect (codeZ0 : List Int) {r : List TTributary × Int × Int} (h : M_spec_DrawGroomDirect codeZ0 = some r) : Ok Try.prog 49 [.lst .o 1 (codeZ0.map AV.u8)] ((fun r => .tup [.lst .u 3 (r.1.map (e_TTributary .u)), .i r.2.1, .i r.2.2]) r) := by
  refine ok_of_body hmix m49 rfl ?_
  unfold M_spec_DrawGroomDirect at h
  simp only [ZC, A49, V49, body_eq]
  obtain ⟨rZ1, hrZ1, h⟩ := bind_s h
  refine ZF trivial ?_
  refine ZW trivial (w_spec_l1Cur_nodes18M1 _ hrZ1) (h2 := by first | exact nm_ok [1000000000] rfl (by decide +kernel) | exact nm_ok2 [1000000000] [] rfl (by decide +kernel) ZQ | exact ZQ) (hk := ?_)
  refine ZG ?_
  obtain ⟨rZ2, hrZ2, h⟩ := bind_s h
  refine ZF trivial ?_
  refine ZW trivial (w_spec_l1Cur_tributariesM1 _ _ hrZ2) (h2 := by first | exact nm_ok [4, 1000000000] rfl (by decide +kernel) | exact nm_ok2 [4, 1000000000] [1500004] rfl (by decide +kernel) ZQ | exact ZQ) (hk := ?_)
  refine ZG ?_
  obtain ⟨lZ3, hlZ3, h⟩ := bnd_s h
  have eZ4 : Row.arr 1 [(.i 10 : AV), (.i 10 : AV), (.i 12 : AV), (.i 20 : AV), (.i 1000 : AV), (.i 5 : AV), (.i 0 : AV)] = Row.arr 1 (lZ3.map AV.i) := by rw [← hlZ3]; rfl
  have eZ5 : lZ3.length = 7 := by rw [← hlZ3]; rfl
  obtain ⟨rZ6, hrZ6, h⟩ := bind_s h
  refine ZF (ZA eZ4 eZ5) ?_
  refine ZW (ZA eZ4 eZ5) (w_spec_l1Cur_amongM2 _ _ hrZ6) (h2 := by first | exact nm_ok [1000000000, 1000000001] rfl (by decide +kernel) | exact nm_ok2 [1000000000, 1000000001] [] rfl (by decide +kernel) ZQ | exact ZQ) (hk := ?_)
  refine ZG ?_
  cases h
  exact ZL (ZA eZ4 eZ5) (ZA V49.eq_1 hlZ3.symm)
theorem w_impl_within (nZ0 : Int) (lowZ0 : Int) (highZ0 : Int) {r : Bool} (h : M_impl_within nZ0 lowZ0 highZ0 = some r) : Ok Try.prog 55 [.i nZ0, .i lowZ0, .i highZ0] ((fun r => .b r) r) := by
  refine ok_of_body hmix m55 rfl ?_
  unfold M_impl_within at h
  simp only [ZC, A55, V55, body_eq]
  obtain ⟨cZ1, h⟩ | ⟨cZ1, h⟩ := cond_s h
  · cases h
    exact ZL cZ1 V55.eq_1
  · cases h
    exact ZL cZ1 V55.eq_1
def S_slices_IndexFunc_TributaryL1 (sZ0 : List TTributary) (F_fZ0 : Nat) (C_fZ0 : List AV) (v : Int) : St := ⟨[(0, .lst .o 3 (sZ0.map (e_TTributary .o))), (1, .fn F_fZ0 C_fZ0), (7, .i (sZ0.length : Int)), (8, .i v)], []⟩
def SX_slices_IndexFunc_TributaryL1 (v : Unit) : St := ⟨[], []⟩
theorem w_slices_IndexFunc_TributaryL1 (sZ0 : List TTributary) (fZ0 : TTributary → Option Bool) (F_fZ0 : Nat) (C_fZ0 : List AV) (hC_fZ0 : Fixed C_fZ0) (hf_fZ0 : ∀ (x0 : TTributary) (r : Bool), fZ0 x0 = some r → Ok Try.prog F_fZ0 ((.agg [.i x0.From, .i x0.To, .i x0.Rate]) :: C_fZ0) (.b r)) (sZ1 : Int) (o : Int ⊕ (Unit ⊕ Int)) (h : M_slices_IndexFunc_TributaryL1 sZ0 fZ0 sZ1 = some o) : AWP (OkS Try.prog) A96L1 (qL [0, 1, 7, 8] [] (S_slices_IndexFunc_TributaryL1 sZ0 F_fZ0 C_fZ0) (qS (qX 0 [] [] (SX_slices_IndexFunc_TributaryL1)) (qR V96 (fun r => .i r))) o) (S_slices_IndexFunc_TributaryL1 sZ0 F_fZ0 C_fZ0 sZ1) := by
  unfold M_slices_IndexFunc_TributaryL1 at h
  simp only [ZC, S_slices_IndexFunc_TributaryL1, A96L1]
  obtain ⟨cZ2, h⟩ | ⟨cZ2, h⟩ := cond_s h
  · obtain ⟨yZ3, hyZ3, h⟩ := bind_s h
    obtain ⟨hyZ3a, hyZ3b⟩ := geti_s hyZ3
    obtain ⟨rZ4, hrZ4, h⟩ := bind_s h
    refine ZF (ZA cZ2 (ZA hyZ3a hyZ3b)) ?_
    refine ZS (ZA cZ2 (ZA hyZ3a (ZA hyZ3b hC_fZ0.1))) (hf_fZ0 _ _ hrZ4) ?_
    refine ZG ?_
    obtain ⟨cZ5, h⟩ | ⟨cZ5, h⟩ := cond_s h
    · cases h
      exact ZL (ZA cZ2 (ZA hyZ3a (ZA hyZ3b cZ5))) (ZA V96.eq_1 (ZA hC_fZ0.2 ((fixed_ren hC_fZ0))))
    · cases h
      exact ZL (ZA cZ2 (ZA hyZ3a (ZA hyZ3b cZ5))) (ZA S_slices_IndexFunc_TributaryL1.eq_1 (ZA SX_slices_IndexFunc_TributaryL1.eq_1 (ZA hC_fZ0.2 ((fixed_ren hC_fZ0)))))
  · cases h
    exact ZL cZ2 (ZA S_slices_IndexFunc_TributaryL1.eq_1 (ZA SX_slices_IndexFunc_TributaryL1.eq_1 (ZA hC_fZ0.2 ((fixed_ren hC_fZ0)))))
theorem w_slices_IndexFunc_Tributary (sZ0 : List TTributary) (fZ0 : TTributary → Option Bool) {r : Int} (h : M_slices_IndexFunc_Tributary sZ0 fZ0 = some r) (F_fZ0 : Nat) (C_fZ0 : List AV) (hC_fZ0 : Fixed C_fZ0) (hf_fZ0 : ∀ (x0 : TTributary) (r : Bool), fZ0 x0 = some r → Ok Try.prog F_fZ0 ((.agg [.i x0.From, .i x0.To, .i x0.Rate]) :: C_fZ0) (.b r)) : Ok Try.prog 96 [.lst .o 3 (sZ0.map (e_TTributary .o)), .fn F_fZ0 C_fZ0] ((fun r => .i r) r) := by
  refine ok_of_body hmix m96 rfl ?_
  unfold M_slices_IndexFunc_Tributary at h
  simp only [ZC, A96, V96, body_eq]
  obtain ⟨oZ6, hoZ6, h⟩ := bind_s h
  try refine ZF trivial ?_
  refine join_rule (o := oZ6) (blk_rule sideR (loop_rule (w_slices_IndexFunc_TributaryL1 sZ0 fZ0 F_fZ0 C_fZ0 hC_fZ0 hf_fZ0) hoZ6 ?_)) (fun vZ7 hv => ?_) (fun xZ8 hv e τ hne hq => ?_)
  · exact ZK (ZA S_slices_IndexFunc_TributaryL1.eq_1 (ZA SX_slices_IndexFunc_TributaryL1.eq_1 (ZA hC_fZ0.2 ((fixed_ren hC_fZ0)))))
  · subst hv
    simp only [] at h
    simp only [ZC, SX_slices_IndexFunc_TributaryL1, A96R2]
    cases h
    exact ZL trivial (ZA V96.eq_1 (ZA hC_fZ0.2 ((fixed_ren hC_fZ0))))
  · subst hv
    simp only [] at h
    obtain ⟨rfl, qZ9⟩ := hq
    cases h
    exact qZ9
theorem w_slices_ContainsFunc_Tributary (sZ0 : List TTributary) (fZ0 : TTributary → Option Bool) {r : Bool} (h : M_slices_ContainsFunc_Tributary sZ0 fZ0 = some r) (F_fZ0 : Nat) (C_fZ0 : List AV) (hC_fZ0 : Fixed C_fZ0) (hf_fZ0 : ∀ (x0 : TTributary) (r : Bool), fZ0 x0 = some r → Ok Try.prog F_fZ0 ((.agg [.i x0.From, .i x0.To, .i x0.Rate]) :: C_fZ0) (.b r)) : Ok Try.prog 56 [.lst .o 3 (sZ0.map (e_TTributary .o)), .fn F_fZ0 C_fZ0] ((fun r => .b r) r) := by
  refine ok_of_body hmix m56 rfl ?_
  unfold M_slices_ContainsFunc_Tributary at h
  simp only [ZC, A56, V56, body_eq]
  obtain ⟨rZ1, hrZ1, h⟩ := bind_s h
  refine ZF trivial ?_
  refine ZS hC_fZ0.1 (w_slices_IndexFunc_Tributary _ _ hrZ1 F_fZ0 C_fZ0 hC_fZ0 hf_fZ0) ?_
  refine ZG ?_
  cases h
  exact ZL trivial (ZA V56.eq_1 (ZA hC_fZ0.2 ((fixed_ren hC_fZ0))))
theorem w_impl_areEnds (aZ0 : Int) (bZ0 : Int) (nodesZ0 : Int) {r : Bool} (h : M_impl_areEnds aZ0 bZ0 nodesZ0 = some r) : Ok Try.prog 58 [.i aZ0, .i bZ0, .i nodesZ0] ((fun r => .b r) r) := by
  refine ok_of_body hmix m58 rfl ?_
  unfold M_impl_areEnds at h
  simp only [ZC, A58, V58, body_eq]
  obtain ⟨rZ1, hrZ1, h⟩ := bind_s h
  refine ZF trivial ?_
  refine ZS trivial (w_impl_within _ _ _ hrZ1) ?_
  refine ZG ?_
  obtain ⟨cZ2, h⟩ | ⟨cZ2, h⟩ := cond_s h
  · obtain ⟨rZ3, hrZ3, h⟩ := bind_s h
    refine ZF cZ2 ?_
    refine ZS cZ2 (w_impl_within _ _ _ hrZ3) ?_
    refine ZG ?_
    obtain ⟨cZ4, h⟩ | ⟨cZ4, h⟩ := cond_s h
    · cases h
      exact ZL (ZA cZ2 cZ4) V58.eq_1
    · cases h
      exact ZL (ZA cZ2 cZ4) V58.eq_1
  · cases h
    exact ZL cZ2 V58.eq_1
theorem w_impl_IsValidTributaries_c1 (tZ0 : TTributary) (p1Z0 : Int) {r : Bool} (h : M_impl_IsValidTributaries_c1 tZ0 p1Z0 = some r) : Ok Try.prog 57 [.agg [.i tZ0.From, .i tZ0.To, .i tZ0.Rate], .bp (.i p1Z0) 0] ((fun r => .b r) r) := by
  refine ok_of_body hmix m57 rfl ?_
  unfold M_impl_IsValidTributaries_c1 at h
  simp only [ZC, A57, V57, body_eq]
  obtain ⟨rZ1, hrZ1, h⟩ := bind_s h
  refine ZF trivial ?_
  refine ZS trivial (w_impl_areEnds _ _ _ hrZ1) ?_
  refine ZG ?_
  obtain ⟨cZ2, h⟩ | ⟨cZ2, h⟩ := cond_s h
  · cases h
    exact ZL cZ2 V57.eq_1
  · obtain ⟨rZ3, hrZ3, h⟩ := bind_s h
    refine ZF cZ2 ?_
    refine ZS cZ2 (w_impl_within _ _ _ hrZ3) ?_
    refine ZG ?_
    cases h
    exact ZL cZ2 V57.eq_1
theorem w_impl_IsValidTributaries (listZ0 : List TTributary) (nodesZ0 : Int) {r : Bool} (h : M_impl_IsValidTributaries listZ0 nodesZ0 = some r) : Ok Try.prog 17 [.lst .o 3 (listZ0.map (e_TTributary .o)), .i nodesZ0] ((fun r => .b r) r) := by
  refine ok_of_body hmix m17 rfl ?_
  unfold M_impl_IsValidTributaries at h
  simp only [ZC, A17, V17, body_eq]
  obtain ⟨rZ1, hrZ1, h⟩ := bind_s h
  refine ZF trivial ?_
  refine ZS trivial (w_impl_within _ _ _ hrZ1) ?_
  refine ZG ?_
  obtain ⟨cZ2, h⟩ | ⟨cZ2, h⟩ := cond_s h
  · obtain ⟨cZ3, h⟩ | ⟨cZ3, h⟩ := cond_s h
    · obtain ⟨rZ4, hrZ4, h⟩ := bind_s h
      refine ZF (ZA cZ2 cZ3) ?_
      refine ZS (ZA cZ2 cZ3) (w_slices_ContainsFunc_Tributary _ _ hrZ4 57 [.bp (.i nodesZ0) 0] ⟨fun ρ k => by simp only [VS1, VS2, VS3, VS4, VS5, VS6, VT1, VT2, finM_ret, finM_nrm, decide_true, decide_false, List.nodup_nil, List.nodup_cons, oks_p, oks_m, oks_h, ne_eq, not_false_eq_true, Int.reduceEq, Int.reduceNe, true_and, Nat.reduceSub, Nat.reduceMul, ↓reduceIte, reduceCtorEq, Nat.reduceEqDiff, Nat.reduceAdd, Nat.reduceLeDiff, Int.reduceLE], by simp [mentsL, AV.ments]⟩ (fun _ _ h => w_impl_IsValidTributaries_c1 _ _ h)) ?_
      refine ZG ?_
      cases h
      exact ZL (ZA cZ2 cZ3) V17.eq_1
    · cases h
      exact ZL (ZA cZ2 cZ3) V17.eq_1
  · cases h
    exact ZL cZ2 V17.eq_1
theorem w_impl_GroomDirect_c1 (tZ0 : TTributary) (p1Z0 : Int) {r : Bool} (h : M_impl_GroomDirect_c1 tZ0 p1Z0 = some r) : Ok Try.prog 85 [.agg [.i tZ0.From, .i tZ0.To, .i tZ0.Rate], .bp (.i p1Z0) 0] ((fun r => .b r) r) := by
  refine ok_of_body hmix m85 rfl ?_
  unfold M_impl_GroomDirect_c1 at h
  simp only [ZC, A85, V85, body_eq]
  cases h
  exact ZL trivial V85.eq_1
def S_impl_numberedL1 (nZ0 : Int) (v : Int × List Int) : St := ⟨[(3, .sl 3 0 v.2.length), (6, .i nZ0), (7, .i v.1)], [(3, .arr 1 (v.2.map AV.i))]⟩
def SX_impl_numberedL1 (v : List Int) : St := ⟨[(3, .sl 3 0 v.length)], [(3, .arr 1 (v.map AV.i))]⟩
theorem w_impl_numberedL1 (nZ0 : Int) (sZ1 : Int × List Int) (o : (Int × List Int) ⊕ (List Int)) (h : M_impl_numberedL1 nZ0 sZ1 = some o) : AWP (OkS Try.prog) A65L1 (qL [3, 6, 7] [3] (S_impl_numberedL1 nZ0) (qX 0 [3] [3] (SX_impl_numberedL1)) o) (S_impl_numberedL1 nZ0 sZ1) := by
  unfold M_impl_numberedL1 at h
  simp only [ZC, S_impl_numberedL1, A65L1]
  obtain ⟨cZ2, h⟩ | ⟨cZ2, h⟩ := cond_s h
  · obtain ⟨lZ3, hlZ3, h⟩ := bnd_s h
    have eZ4 : Row.arr 1 [(.i sZ1.1 : AV)] = Row.arr 1 (lZ3.map AV.i) := by rw [← hlZ3]; rfl
    have eZ5 : lZ3.length = 1 := by rw [← hlZ3]; rfl
    obtain ⟨uZ6, huZ6, h⟩ := bind_s h
    have huZ6g := grd_s huZ6
    obtain ⟨lZ7, hlZ7, h⟩ := bnd_s h
    have eZ8 : sZ1.2.map AV.i ++ lZ3.map AV.i = lZ7.map AV.i := by rw [← hlZ7, List.map_append]
    have eZ9 : sZ1.2.length + 1 = lZ7.length := by simp [← hlZ3, ← hlZ7] <;> omega
    rw [eZ9] at huZ6g
    cases h
    exact ZL (ZA cZ2 (ZA eZ4 (ZA eZ5 (ZA huZ6g (ZA eZ8 eZ9))))) (ZA S_impl_numberedL1.eq_1 (ZA SX_impl_numberedL1.eq_1 (ZA hlZ3.symm hlZ7.symm)))
  · cases h
    exact ZL cZ2 (ZA S_impl_numberedL1.eq_1 SX_impl_numberedL1.eq_1)
theorem w_impl_numbered (nZ0 : Int) {r : List Int} (h : M_impl_numbered nZ0 = some r) : Ok Try.prog 65 [.i nZ0] ((fun r => .lst .u 1 (r.map AV.i)) r) := by
  refine ok_of_body hmix m65 rfl ?_
  unfold M_impl_numbered at h
  simp only [ZC, A65, V65, body_eq]
  obtain ⟨oZ10, hoZ10, h⟩ := bind_s h
  try refine ZF trivial ?_
  refine join_rule0 (blk_rule0 (loop_rule (w_impl_numberedL1 nZ0) hoZ10 ?_)) ?_
  · exact ZK (ZA S_impl_numberedL1.eq_1 SX_impl_numberedL1.eq_1)
  · simp only [ZC, SX_impl_numberedL1, A65R2]
    cases h
    exact ZL trivial V65.eq_1
theorem w_cmp_isNaN_int (xZ0 : Int) {r : Bool} (h : M_cmp_isNaN_int xZ0 = some r) : Ok Try.prog 110 [.i xZ0] ((fun r => .b r) r) := by
  refine ok_of_body hmix m110 rfl ?_
  unfold M_cmp_isNaN_int at h
  simp only [ZC, A110, V110, body_eq]
  cases h
  exact ZL trivial V110.eq_1
theorem w_cmp_Compare_int (xZ0 : Int) (yZ0 : Int) {r : Int} (h : M_cmp_Compare_int xZ0 yZ0 = some r) : Ok Try.prog 92 [.i xZ0, .i yZ0] ((fun r => .i r) r) := by
  refine ok_of_body hmix m92 rfl ?_
  unfold M_cmp_Compare_int at h
  simp only [ZC, A92, V92, body_eq]
  obtain ⟨rZ1, hrZ1, h⟩ := bind_s h
  refine ZF trivial ?_
  refine ZS trivial (w_cmp_isNaN_int _ hrZ1) ?_
  refine ZG ?_
  obtain ⟨rZ2, hrZ2, h⟩ := bind_s h
  refine ZF trivial ?_
  refine ZS trivial (w_cmp_isNaN_int _ hrZ2) ?_
  refine ZG ?_
  obtain ⟨cZ3, h⟩ | ⟨cZ3, h⟩ := cond_s h
  · obtain ⟨cZ4, h⟩ | ⟨cZ4, h⟩ := cond_s h
    · cases h
      exact ZL (ZA cZ3 cZ4) V92.eq_1
    · cases h
      exact ZL (ZA cZ3 cZ4) V92.eq_1
  · obtain ⟨cZ5, h⟩ | ⟨cZ5, h⟩ := cond_s h
    · cases h
      exact ZL (ZA cZ3 cZ5) V92.eq_1
    · obtain ⟨cZ6, h⟩ | ⟨cZ6, h⟩ := cond_s h
      · cases h
        exact ZL (ZA cZ3 (ZA cZ5 cZ6)) V92.eq_1
      · obtain ⟨cZ7, h⟩ | ⟨cZ7, h⟩ := cond_s h
        · cases h
          exact ZL (ZA cZ3 (ZA cZ5 (ZA cZ6 cZ7))) V92.eq_1
        · cases h
          exact ZL (ZA cZ3 (ZA cZ5 (ZA cZ6 cZ7))) V92.eq_1
theorem w_impl_descending_c1 (aZ0 : Int) (bZ0 : Int) (p2Z0 : List Int) {r : Int} (h : M_impl_descending_c1 aZ0 bZ0 p2Z0 = some r) : Ok Try.prog 105 [.i aZ0, .i bZ0, .bp (.lst .o 1 (p2Z0.map AV.i)) 0] ((fun r => .i r) r) := by
  refine ok_of_body hmix m105 rfl ?_
  unfold M_impl_descending_c1 at h
  simp only [ZC, A105, V105, body_eq]
  obtain ⟨yZ1, hyZ1, h⟩ := bind_s h
  obtain ⟨hyZ1a, hyZ1b⟩ := geti_s hyZ1
  obtain ⟨yZ2, hyZ2, h⟩ := bind_s h
  obtain ⟨hyZ2a, hyZ2b⟩ := geti_s hyZ2
  obtain ⟨rZ3, hrZ3, h⟩ := bind_s h
  refine ZF (ZA hyZ1a (ZA hyZ1b (ZA hyZ2a hyZ2b))) ?_
  refine ZS (ZA hyZ1a (ZA hyZ1b (ZA hyZ2a hyZ2b))) (w_cmp_Compare_int _ _ hrZ3) ?_
  refine ZG ?_
  cases h
  exact ZL (ZA hyZ1a (ZA hyZ1b (ZA hyZ2a hyZ2b))) V105.eq_1
def S_slices_insertionSortCmpFunc_intM1L2 (aaZ0 : Int) (abZ0 : Int) (adZ0 : List Int) (sZ1 : Int × List Int) (v : Int × List Int) : St := ⟨[(0, .sl 1000000000 0 v.2.length), (1, .i aaZ0), (2, .i abZ0), (3, .fn 105 [.pt 1000000001 0 0]), (8, .i sZ1.1), (9, .i v.1)], [(1000000000, .arr 1 (v.2.map AV.i)), (1000000001, .var (.lst .o 1 (adZ0.map AV.i)))]⟩
def SX_slices_insertionSortCmpFunc_intM1L2 (aaZ0 : Int) (abZ0 : Int) (adZ0 : List Int) (sZ1 : Int × List Int) (v : List Int) : St := ⟨[(0, .sl 1000000000 0 v.length), (1, .i aaZ0), (2, .i abZ0), (3, .fn 105 [.pt 1000000001 0 0]), (8, .i sZ1.1)], [(1000000000, .arr 1 (v.map AV.i)), (1000000001, .var (.lst .o 1 (adZ0.map AV.i)))]⟩
theorem w_slices_insertionSortCmpFunc_intM1L2 (aaZ0 : Int) (abZ0 : Int) (adZ0 : List Int) (sZ1 : Int × List Int) (sZ3 : Int × List Int) (o : (Int × List Int) ⊕ (List Int)) (h : M_slices_insertionSortCmpFunc_intM1L2 aaZ0 adZ0 sZ3 = some o) : AWP (OkS Try.prog) A117M1L2 (qL [0, 1, 2, 3, 8, 9] [1000000000, 1000000001] (S_slices_insertionSortCmpFunc_intM1L2 aaZ0 abZ0 adZ0 sZ1) (qX 2 [0, 1, 2, 3, 8] [1000000000, 1000000001] (SX_slices_insertionSortCmpFunc_intM1L2 aaZ0 abZ0 adZ0 sZ1)) o) (S_slices_insertionSortCmpFunc_intM1L2 aaZ0 abZ0 adZ0 sZ1 sZ3) := by
  unfold M_slices_insertionSortCmpFunc_intM1L2 at h
  simp only [ZC, S_slices_insertionSortCmpFunc_intM1L2, A117M1L2]
  obtain ⟨oZ10, hoZ10, h⟩ := bind_s h
  try refine ZF trivial ?_
  refine join_rule0 (sh := (fun v => ⟨[(0, .sl 1000000000 0 sZ3.2.length), (1, .i aaZ0), (2, .i abZ0), (3, .fn 105 [.pt 1000000001 0 0]), (8, .i sZ1.1), (9, .i sZ3.1), (34, .b v)], [(1000000000, .arr 1 (sZ3.2.map AV.i)), (1000000001, .var (.lst .o 1 (adZ0.map AV.i)))]⟩)) (s := oZ10) ?_ ?_
  · replace h := hoZ10
    obtain ⟨cZ4, h⟩ | ⟨cZ4, h⟩ := cond_s h
    · obtain ⟨kZ5, hkZ5, h⟩ := bind_s h
      obtain ⟨hkZ5a, hkZ5b⟩ := grd_s hkZ5
      obtain ⟨yZ6, hyZ6, h⟩ := bind_s h
      obtain ⟨kZ7, hkZ7, h⟩ := bind_s h
      obtain ⟨hkZ7a, hkZ7b⟩ := grd_s hkZ7
      obtain ⟨yZ8, hyZ8, h⟩ := bind_s h
      obtain ⟨rZ9, hrZ9, h⟩ := bind_s h
      refine ZF (ZA cZ4 (ZA hkZ5a (ZA hkZ5b (ZA hyZ6 (ZA hkZ7a (ZA hkZ7b hyZ8)))))) ?_
      refine ZS (ZA cZ4 (ZA hkZ5a (ZA hkZ5b (ZA hyZ6 (ZA hkZ7a (ZA hkZ7b hyZ8)))))) (w_impl_descending_c1 _ _ _ hrZ9) ?_
      refine ZG ?_
      cases h
      exact ZL (ZA cZ4 (ZA hkZ5a (ZA hkZ5b (ZA hyZ6 (ZA hkZ7a (ZA hkZ7b hyZ8)))))) trivial
    · cases h
      exact ZL cZ4 trivial
  · simp only [ZC, A117M1R1]
    obtain ⟨cZ11, h⟩ | ⟨cZ11, h⟩ := cond_s h
    · obtain ⟨kZ12, hkZ12, h⟩ := bind_s h
      obtain ⟨hkZ12a, hkZ12b⟩ := grd_s hkZ12
      obtain ⟨yZ13, hyZ13, h⟩ := bind_s h
      obtain ⟨kZ14, hkZ14, h⟩ := bind_s h
      obtain ⟨hkZ14a, hkZ14b⟩ := grd_s hkZ14
      obtain ⟨yZ15, hyZ15, h⟩ := bind_s h
      obtain ⟨lZ16, hlZ16, h⟩ := bnd_s h
      have eZ17 : (sZ3.2.map AV.i).set (Int.toNat sZ3.1) (.i yZ13) = lZ16.map AV.i := by rw [← hlZ16, List.map_set]
      obtain ⟨yZ18, hyZ18, h⟩ := bind_s h
      obtain ⟨lZ19, hlZ19, h⟩ := bnd_s h
      have eZ20 : (lZ16.map AV.i).set (Int.toNat (IntKind.wrap .i64 (sZ3.1 - 1))) (.i yZ15) = lZ19.map AV.i := by rw [← hlZ19, List.map_set]
      cases h
      exact ZL (ZA cZ11 (ZA hkZ12a (ZA hkZ12b (ZA hyZ13 (ZA hkZ14a (ZA hkZ14b (ZA hyZ15 (ZA eZ17 (ZA hyZ18 eZ20))))))))) (ZA S_slices_insertionSortCmpFunc_intM1L2.eq_1 (ZA SX_slices_insertionSortCmpFunc_intM1L2.eq_1 (ZA hlZ16.symm hlZ19.symm)))
    · cases h
      exact ZL cZ11 (ZA S_slices_insertionSortCmpFunc_intM1L2.eq_1 SX_slices_insertionSortCmpFunc_intM1L2.eq_1)
def S_slices_insertionSortCmpFunc_intM1L1 (aaZ0 : Int) (abZ0 : Int) (adZ0 : List Int) (v : Int × List Int) : St := ⟨[(0, .sl 1000000000 0 v.2.length), (1, .i aaZ0), (2, .i abZ0), (3, .fn 105 [.pt 1000000001 0 0]), (8, .i v.1)], [(1000000000, .arr 1 (v.2.map AV.i)), (1000000001, .var (.lst .o 1 (adZ0.map AV.i)))]⟩
def SX_slices_insertionSortCmpFunc_intM1L1 (adZ0 : List Int) (v : List Int) : St := ⟨[], [(1000000000, .arr 1 (v.map AV.i)), (1000000001, .var (.lst .o 1 (adZ0.map AV.i)))]⟩
theorem w_slices_insertionSortCmpFunc_intM1L1 (aaZ0 : Int) (abZ0 : Int) (adZ0 : List Int) (sZ1 : Int × List Int) (o : (Int × List Int) ⊕ (List Int)) (h : M_slices_insertionSortCmpFunc_intM1L1 aaZ0 abZ0 adZ0 sZ1 = some o) : AWP (OkS Try.prog) A117M1L4 (qL [0, 1, 2, 3, 8] [1000000000, 1000000001] (S_slices_insertionSortCmpFunc_intM1L1 aaZ0 abZ0 adZ0) (qX 0 [] [1000000000, 1000000001] (SX_slices_insertionSortCmpFunc_intM1L1 adZ0)) o) (S_slices_insertionSortCmpFunc_intM1L1 aaZ0 abZ0 adZ0 sZ1) := by
  unfold M_slices_insertionSortCmpFunc_intM1L1 at h
  simp only [ZC, S_slices_insertionSortCmpFunc_intM1L1, A117M1L4]
  obtain ⟨cZ2, h⟩ | ⟨cZ2, h⟩ := cond_s h
  · obtain ⟨oZ23, hoZ23, h⟩ := bind_s h
    try refine ZF cZ2 ?_
    refine join_rule0 (sh := (fun v => ⟨[(0, .sl 1000000000 0 v.length), (1, .i aaZ0), (2, .i abZ0), (3, .fn 105 [.pt 1000000001 0 0]), (8, .i sZ1.1)], [(1000000000, .arr 1 (v.map AV.i)), (1000000001, .var (.lst .o 1 (adZ0.map AV.i)))]⟩)) (s := oZ23) ?_ ?_
    · replace h := hoZ23
      obtain ⟨oZ21, hoZ21, h⟩ := bind_s h
      try refine ZF cZ2 ?_
      first | refine tail_rule0 (blk_rule0 (loop_rule (w_slices_insertionSortCmpFunc_intM1L2 aaZ0 abZ0 adZ0 sZ1) hoZ21 ?_)) (fun τ qZ22 => ?_) | refine tail_blk0 (loop_rule (w_slices_insertionSortCmpFunc_intM1L2 aaZ0 abZ0 adZ0 sZ1) hoZ21 ?_) (fun τ qZ22 => ?_)
      · exact ZK (ZA S_slices_insertionSortCmpFunc_intM1L2.eq_1 SX_slices_insertionSortCmpFunc_intM1L2.eq_1)
      · cases h
        try refine ZF trivial ?_
        refine ⟨rfl, Shp.sub qZ22 (by decide) (by decide) ?_⟩
        exact ZK SX_slices_insertionSortCmpFunc_intM1L2.eq_1
    · simp only [ZC, A117M1R3]
      cases h
      exact ZL cZ2 (ZA S_slices_insertionSortCmpFunc_intM1L1.eq_1 SX_slices_insertionSortCmpFunc_intM1L1.eq_1)
  · cases h
    exact ZL cZ2 (ZA S_slices_insertionSortCmpFunc_intM1L1.eq_1 SX_slices_insertionSortCmpFunc_intM1L1.eq_1)
theorem w_slices_insertionSortCmpFunc_intM1 (aaZ0 : Int) (abZ0 : Int) (acZ0 : List Int) (adZ0 : List Int) {r : List Int × List Int} (h : M_slices_insertionSortCmpFunc_intM1 aaZ0 abZ0 acZ0 adZ0 = some r) : OkM Try.prog 117 [.sl 1000000000 0 acZ0.length, .i aaZ0, .i abZ0, .fn 105 [.pt 1000000001 0 0]] [(1000000000, .arr 1 (acZ0.map AV.i)), (1000000001, .var (.lst .o 1 (adZ0.map AV.i)))] ((fun (r : List Int × List Int) => .tup []) r) ((fun (r : List Int × List Int) => [(1000000000, .arr 1 (r.1.map AV.i)), (1000000001, .var (.lst .o 1 (r.2.map AV.i)))]) r) := by
  refine okM_of_body (lr := [1000000000, 1000000001]) hmix m117M1 rfl rfl ?_
  unfold M_slices_insertionSortCmpFunc_intM1 at h
  simp only [ZC, A117M1, V117M1]
  obtain ⟨oZ24, hoZ24, h⟩ := bind_s h
  try refine ZF trivial ?_
  first | refine tail_rule0 (blk_rule0 (loop_rule (w_slices_insertionSortCmpFunc_intM1L1 aaZ0 abZ0 adZ0) hoZ24 ?_)) (fun τ qZ25 => ?_) | refine tail_blk0 (loop_rule (w_slices_insertionSortCmpFunc_intM1L1 aaZ0 abZ0 adZ0) hoZ24 ?_) (fun τ qZ25 => ?_)
  · exact ZK (ZA S_slices_insertionSortCmpFunc_intM1L1.eq_1 SX_slices_insertionSortCmpFunc_intM1L1.eq_1)
  · cases h
    refine finM_shp qZ25 (by decide) ?_ rfl
    exact ZK (ZA V117M1.eq_1 SX_slices_insertionSortCmpFunc_intM1L1.eq_1)
def S_slices_insertionSortCmpFunc_intM2L2 (aaZ0 : Nat) (abZ0 : Nat) (acZ0 : Int) (adZ0 : Int) (afZ0 : List Int) (sZ1 : Int × List Int) (v : Int × List Int) : St := ⟨[(0, .sl 1000000000 aaZ0 abZ0), (1, .i acZ0), (2, .i adZ0), (3, .fn 105 [.pt 1000000001 0 0]), (8, .i sZ1.1), (9, .i v.1)], [(1000000000, .arr 1 (v.2.map AV.i)), (1000000001, .var (.lst .o 1 (afZ0.map AV.i)))]⟩
def SX_slices_insertionSortCmpFunc_intM2L2 (aaZ0 : Nat) (abZ0 : Nat) (acZ0 : Int) (adZ0 : Int) (afZ0 : List Int) (sZ1 : Int × List Int) (v : List Int) : St := ⟨[(0, .sl 1000000000 aaZ0 abZ0), (1, .i acZ0), (2, .i adZ0), (3, .fn 105 [.pt 1000000001 0 0]), (8, .i sZ1.1)], [(1000000000, .arr 1 (v.map AV.i)), (1000000001, .var (.lst .o 1 (afZ0.map AV.i)))]⟩
theorem w_slices_insertionSortCmpFunc_intM2L2 (aaZ0 : Nat) (abZ0 : Nat) (acZ0 : Int) (adZ0 : Int) (afZ0 : List Int) (sZ1 : Int × List Int) (sZ3 : Int × List Int) (o : (Int × List Int) ⊕ (List Int)) (h : M_slices_insertionSortCmpFunc_intM2L2 aaZ0 abZ0 acZ0 afZ0 sZ3 = some o) : AWP (OkS Try.prog) A117M2L2 (qL [0, 1, 2, 3, 8, 9] [1000000000, 1000000001] (S_slices_insertionSortCmpFunc_intM2L2 aaZ0 abZ0 acZ0 adZ0 afZ0 sZ1) (qX 2 [0, 1, 2, 3, 8] [1000000000, 1000000001] (SX_slices_insertionSortCmpFunc_intM2L2 aaZ0 abZ0 acZ0 adZ0 afZ0 sZ1)) o) (S_slices_insertionSortCmpFunc_intM2L2 aaZ0 abZ0 acZ0 adZ0 afZ0 sZ1 sZ3) := by
  unfold M_slices_insertionSortCmpFunc_intM2L2 at h
  simp only [ZC, S_slices_insertionSortCmpFunc_intM2L2, A117M2L2]
  obtain ⟨oZ10, hoZ10, h⟩ := bind_s h
  try refine ZF trivial ?_
  refine join_rule0 (sh := (fun v => ⟨[(0, .sl 1000000000 aaZ0 abZ0), (1, .i acZ0), (2, .i adZ0), (3, .fn 105 [.pt 1000000001 0 0]), (8, .i sZ1.1), (9, .i sZ3.1), (34, .b v)], [(1000000000, .arr 1 (sZ3.2.map AV.i)), (1000000001, .var (.lst .o 1 (afZ0.map AV.i)))]⟩)) (s := oZ10) ?_ ?_
  · replace h := hoZ10
    obtain ⟨cZ4, h⟩ | ⟨cZ4, h⟩ := cond_s h
    · obtain ⟨kZ5, hkZ5, h⟩ := bind_s h
      obtain ⟨hkZ5a, hkZ5b⟩ := grd_s hkZ5
      obtain ⟨yZ6, hyZ6, h⟩ := bind_s h
      obtain ⟨kZ7, hkZ7, h⟩ := bind_s h
      obtain ⟨hkZ7a, hkZ7b⟩ := grd_s hkZ7
      obtain ⟨yZ8, hyZ8, h⟩ := bind_s h
      obtain ⟨rZ9, hrZ9, h⟩ := bind_s h
      refine ZF (ZA cZ4 (ZA hkZ5a (ZA hkZ5b (ZA hyZ6 (ZA hkZ7a (ZA hkZ7b hyZ8)))))) ?_
      refine ZS (ZA cZ4 (ZA hkZ5a (ZA hkZ5b (ZA hyZ6 (ZA hkZ7a (ZA hkZ7b hyZ8)))))) (w_impl_descending_c1 _ _ _ hrZ9) ?_
      refine ZG ?_
      cases h
      exact ZL (ZA cZ4 (ZA hkZ5a (ZA hkZ5b (ZA hyZ6 (ZA hkZ7a (ZA hkZ7b hyZ8)))))) trivial
    · cases h
      exact ZL cZ4 trivial
  · simp only [ZC, A117M2R1]
    obtain ⟨cZ11, h⟩ | ⟨cZ11, h⟩ := cond_s h
    · obtain ⟨kZ12, hkZ12, h⟩ := bind_s h
      obtain ⟨hkZ12a, hkZ12b⟩ := grd_s hkZ12
      obtain ⟨yZ13, hyZ13, h⟩ := bind_s h
      obtain ⟨kZ14, hkZ14, h⟩ := bind_s h
      obtain ⟨hkZ14a, hkZ14b⟩ := grd_s hkZ14
      obtain ⟨yZ15, hyZ15, h⟩ := bind_s h
      obtain ⟨lZ16, hlZ16, h⟩ := bnd_s h
      have eZ17 : (sZ3.2.map AV.i).set (aaZ0 + (Int.toNat sZ3.1)) (.i yZ13) = lZ16.map AV.i := by rw [← hlZ16, List.map_set]
      obtain ⟨yZ18, hyZ18, h⟩ := bind_s h
      obtain ⟨lZ19, hlZ19, h⟩ := bnd_s h
      have eZ20 : (lZ16.map AV.i).set (aaZ0 + (Int.toNat (IntKind.wrap .i64 (sZ3.1 - 1)))) (.i yZ15) = lZ19.map AV.i := by rw [← hlZ19, List.map_set]
      cases h
      exact ZL (ZA cZ11 (ZA hkZ12a (ZA hkZ12b (ZA hyZ13 (ZA hkZ14a (ZA hkZ14b (ZA hyZ15 (ZA eZ17 (ZA hyZ18 eZ20))))))))) (ZA S_slices_insertionSortCmpFunc_intM2L2.eq_1 (ZA SX_slices_insertionSortCmpFunc_intM2L2.eq_1 (ZA hlZ16.symm hlZ19.symm)))
    · cases h
      exact ZL cZ11 (ZA S_slices_insertionSortCmpFunc_intM2L2.eq_1 SX_slices_insertionSortCmpFunc_intM2L2.eq_1)
def S_slices_insertionSortCmpFunc_intM2L1 (aaZ0 : Nat) (abZ0 : Nat) (acZ0 : Int) (adZ0 : Int) (afZ0 : List Int) (v : Int × List Int) : St := ⟨[(0, .sl 1000000000 aaZ0 abZ0), (1, .i acZ0), (2, .i adZ0), (3, .fn 105 [.pt 1000000001 0 0]), (8, .i v.1)], [(1000000000, .arr 1 (v.2.map AV.i)), (1000000001, .var (.lst .o 1 (afZ0.map AV.i)))]⟩
def SX_slices_insertionSortCmpFunc_intM2L1 (afZ0 : List Int) (v : List Int) : St := ⟨[], [(1000000000, .arr 1 (v.map AV.i)), (1000000001, .var (.lst .o 1 (afZ0.map AV.i)))]⟩
theorem w_slices_insertionSortCmpFunc_intM2L1 (aaZ0 : Nat) (abZ0 : Nat) (acZ0 : Int) (adZ0 : Int) (afZ0 : List Int) (sZ1 : Int × List Int) (o : (Int × List Int) ⊕ (List Int)) (h : M_slices_insertionSortCmpFunc_intM2L1 aaZ0 abZ0 acZ0 adZ0 afZ0 sZ1 = some o) : AWP (OkS Try.prog) A117M2L4 (qL [0, 1, 2, 3, 8] [1000000000, 1000000001] (S_slices_insertionSortCmpFunc_intM2L1 aaZ0 abZ0 acZ0 adZ0 afZ0) (qX 0 [] [1000000000, 1000000001] (SX_slices_insertionSortCmpFunc_intM2L1 afZ0)) o) (S_slices_insertionSortCmpFunc_intM2L1 aaZ0 abZ0 acZ0 adZ0 afZ0 sZ1) := by
  unfold M_slices_insertionSortCmpFunc_intM2L1 at h
  simp only [ZC, S_slices_insertionSortCmpFunc_intM2L1, A117M2L4]
  obtain ⟨cZ2, h⟩ | ⟨cZ2, h⟩ := cond_s h
  · obtain ⟨oZ23, hoZ23, h⟩ := bind_s h
    try refine ZF cZ2 ?_
    refine join_rule0 (sh := (fun v => ⟨[(0, .sl 1000000000 aaZ0 abZ0), (1, .i acZ0), (2, .i adZ0), (3, .fn 105 [.pt 1000000001 0 0]), (8, .i sZ1.1)], [(1000000000, .arr 1 (v.map AV.i)), (1000000001, .var (.lst .o 1 (afZ0.map AV.i)))]⟩)) (s := oZ23) ?_ ?_
    · replace h := hoZ23
      obtain ⟨oZ21, hoZ21, h⟩ := bind_s h
      try refine ZF cZ2 ?_
      first | refine tail_rule0 (blk_rule0 (loop_rule (w_slices_insertionSortCmpFunc_intM2L2 aaZ0 abZ0 acZ0 adZ0 afZ0 sZ1) hoZ21 ?_)) (fun τ qZ22 => ?_) | refine tail_blk0 (loop_rule (w_slices_insertionSortCmpFunc_intM2L2 aaZ0 abZ0 acZ0 adZ0 afZ0 sZ1) hoZ21 ?_) (fun τ qZ22 => ?_)
      · exact ZK (ZA S_slices_insertionSortCmpFunc_intM2L2.eq_1 SX_slices_insertionSortCmpFunc_intM2L2.eq_1)
      · cases h
        try refine ZF trivial ?_
        refine ⟨rfl, Shp.sub qZ22 (by decide) (by decide) ?_⟩
        exact ZK SX_slices_insertionSortCmpFunc_intM2L2.eq_1
    · simp only [ZC, A117M2R3]
      cases h
      exact ZL cZ2 (ZA S_slices_insertionSortCmpFunc_intM2L1.eq_1 SX_slices_insertionSortCmpFunc_intM2L1.eq_1)
  · cases h
    exact ZL cZ2 (ZA S_slices_insertionSortCmpFunc_intM2L1.eq_1 SX_slices_insertionSortCmpFunc_intM2L1.eq_1)
theorem w_slices_insertionSortCmpFunc_intM2 (aaZ0 : Nat) (abZ0 : Nat) (acZ0 : Int) (adZ0 : Int) (aeZ0 : List Int) (afZ0 : List Int) {r : List Int × List Int} (h : M_slices_insertionSortCmpFunc_intM2 aaZ0 abZ0 acZ0 adZ0 aeZ0 afZ0 = some r) : OkM Try.prog 117 [.sl 1000000000 aaZ0 abZ0, .i acZ0, .i adZ0, .fn 105 [.pt 1000000001 0 0]] [(1000000000, .arr 1 (aeZ0.map AV.i)), (1000000001, .var (.lst .o 1 (afZ0.map AV.i)))] ((fun (r : List Int × List Int) => .tup []) r) ((fun (r : List Int × List Int) => [(1000000000, .arr 1 (r.1.map AV.i)), (1000000001, .var (.lst .o 1 (r.2.map AV.i)))]) r) := by
  refine okM_of_body (lr := [1000000000, 1000000001]) hmix m117M2 rfl rfl ?_
  unfold M_slices_insertionSortCmpFunc_intM2 at h
  simp only [ZC, A117M2, V117M2]
  obtain ⟨oZ24, hoZ24, h⟩ := bind_s h
  try refine ZF trivial ?_
  first | refine tail_rule0 (blk_rule0 (loop_rule (w_slices_insertionSortCmpFunc_intM2L1 aaZ0 abZ0 acZ0 adZ0 afZ0) hoZ24 ?_)) (fun τ qZ25 => ?_) | refine tail_blk0 (loop_rule (w_slices_insertionSortCmpFunc_intM2L1 aaZ0 abZ0 acZ0 adZ0 afZ0) hoZ24 ?_) (fun τ qZ25 => ?_)
  · exact ZK (ZA S_slices_insertionSortCmpFunc_intM2L1.eq_1 SX_slices_insertionSortCmpFunc_intM2L1.eq_1)
  · cases h
    refine finM_shp qZ25 (by decide) ?_ rfl
    exact ZK (ZA V117M2.eq_1 SX_slices_insertionSortCmpFunc_intM2L1.eq_1)
def S_slices_swapRangeCmpFunc_intM1L1 (aaZ0 : Nat) (abZ0 : Nat) (acZ0 : Int) (adZ0 : Int) (aeZ0 : Int) (agZ0 : List Int) (v : Int × List Int) : St := ⟨[(0, .sl 1000000000 aaZ0 abZ0), (1, .i acZ0), (2, .i adZ0), (3, .i aeZ0), (10, .i v.1)], [(1000000000, .arr 1 (v.2.map AV.i)), (1000000001, .var (.lst .o 1 (agZ0.map AV.i)))]⟩
def SX_slices_swapRangeCmpFunc_intM1L1 (agZ0 : List Int) (v : List Int) : St := ⟨[], [(1000000000, .arr 1 (v.map AV.i)), (1000000001, .var (.lst .o 1 (agZ0.map AV.i)))]⟩
theorem w_slices_swapRangeCmpFunc_intM1L1 (aaZ0 : Nat) (abZ0 : Nat) (acZ0 : Int) (adZ0 : Int) (aeZ0 : Int) (agZ0 : List Int) (sZ1 : Int × List Int) (o : (Int × List Int) ⊕ (List Int)) (h : M_slices_swapRangeCmpFunc_intM1L1 aaZ0 abZ0 acZ0 adZ0 aeZ0 sZ1 = some o) : AWP (OkS Try.prog) A137M1L1 (qL [0, 1, 2, 3, 10] [1000000000, 1000000001] (S_slices_swapRangeCmpFunc_intM1L1 aaZ0 abZ0 acZ0 adZ0 aeZ0 agZ0) (qX 0 [] [1000000000, 1000000001] (SX_slices_swapRangeCmpFunc_intM1L1 agZ0)) o) (S_slices_swapRangeCmpFunc_intM1L1 aaZ0 abZ0 acZ0 adZ0 aeZ0 agZ0 sZ1) := by
  unfold M_slices_swapRangeCmpFunc_intM1L1 at h
  simp only [ZC, S_slices_swapRangeCmpFunc_intM1L1, A137M1L1]
  obtain ⟨cZ2, h⟩ | ⟨cZ2, h⟩ := cond_s h
  · obtain ⟨kZ3, hkZ3, h⟩ := bind_s h
    obtain ⟨hkZ3a, hkZ3b⟩ := grd_s hkZ3
    obtain ⟨yZ4, hyZ4, h⟩ := bind_s h
    obtain ⟨kZ5, hkZ5, h⟩ := bind_s h
    obtain ⟨hkZ5a, hkZ5b⟩ := grd_s hkZ5
    obtain ⟨yZ6, hyZ6, h⟩ := bind_s h
    obtain ⟨lZ7, hlZ7, h⟩ := bnd_s h
    have eZ8 : (sZ1.2.map AV.i).set (aaZ0 + (Int.toNat (IntKind.wrap .i64 (acZ0 + sZ1.1)))) (.i yZ4) = lZ7.map AV.i := by rw [← hlZ7, List.map_set]
    obtain ⟨yZ9, hyZ9, h⟩ := bind_s h
    obtain ⟨lZ10, hlZ10, h⟩ := bnd_s h
    have eZ11 : (lZ7.map AV.i).set (aaZ0 + (Int.toNat (IntKind.wrap .i64 (adZ0 + sZ1.1)))) (.i yZ6) = lZ10.map AV.i := by rw [← hlZ10, List.map_set]
    cases h
    exact ZL (ZA cZ2 (ZA hkZ3a (ZA hkZ3b (ZA hyZ4 (ZA hkZ5a (ZA hkZ5b (ZA hyZ6 (ZA eZ8 (ZA hyZ9 eZ11))))))))) (ZA S_slices_swapRangeCmpFunc_intM1L1.eq_1 (ZA SX_slices_swapRangeCmpFunc_intM1L1.eq_1 (ZA hlZ7.symm hlZ10.symm)))
  · cases h
    exact ZL cZ2 (ZA S_slices_swapRangeCmpFunc_intM1L1.eq_1 SX_slices_swapRangeCmpFunc_intM1L1.eq_1)
theorem w_slices_swapRangeCmpFunc_intM1 (aaZ0 : Nat) (abZ0 : Nat) (acZ0 : Int) (adZ0 : Int) (aeZ0 : Int) (afZ0 : List Int) (agZ0 : List Int) {r : List Int × List Int} (h : M_slices_swapRangeCmpFunc_intM1 aaZ0 abZ0 acZ0 adZ0 aeZ0 afZ0 agZ0 = some r) : OkM Try.prog 137 [.sl 1000000000 aaZ0 abZ0, .i acZ0, .i adZ0, .i aeZ0, .fn 105 [.pt 1000000001 0 0]] [(1000000000, .arr 1 (afZ0.map AV.i)), (1000000001, .var (.lst .o 1 (agZ0.map AV.i)))] ((fun (r : List Int × List Int) => .tup []) r) ((fun (r : List Int × List Int) => [(1000000000, .arr 1 (r.1.map AV.i)), (1000000001, .var (.lst .o 1 (r.2.map AV.i)))]) r) := by
  refine okM_of_body (lr := [1000000000, 1000000001]) hmix m137M1 rfl rfl ?_
  unfold M_slices_swapRangeCmpFunc_intM1 at h
  simp only [ZC, A137M1, V137M1]
  obtain ⟨oZ12, hoZ12, h⟩ := bind_s h
  try refine ZF trivial ?_
  first | refine tail_rule0 (blk_rule0 (loop_rule (w_slices_swapRangeCmpFunc_intM1L1 aaZ0 abZ0 acZ0 adZ0 aeZ0 agZ0) hoZ12 ?_)) (fun τ qZ13 => ?_) | refine tail_blk0 (loop_rule (w_slices_swapRangeCmpFunc_intM1L1 aaZ0 abZ0 acZ0 adZ0 aeZ0 agZ0) hoZ12 ?_) (fun τ qZ13 => ?_)
  · exact ZK (ZA S_slices_swapRangeCmpFunc_intM1L1.eq_1 SX_slices_swapRangeCmpFunc_intM1L1.eq_1)
  · cases h
    refine finM_shp qZ13 (by decide) ?_ rfl
    exact ZK (ZA V137M1.eq_1 SX_slices_swapRangeCmpFunc_intM1L1.eq_1)
def S_slices_rotateCmpFunc_intM1L1 (aaZ0 : Nat) (abZ0 : Nat) (adZ0 : Int) (v : Int × Int × List Int × List Int) : St := ⟨[(0, .sl 1000000000 aaZ0 abZ0), (2, .i adZ0), (4, .fn 105 [.pt 1000000001 0 0]), (10, .i v.1), (11, .i v.2.1)], [(1000000000, .arr 1 (v.2.2.1.map AV.i)), (1000000001, .var (.lst .o 1 (v.2.2.2.map AV.i)))]⟩
def SX_slices_rotateCmpFunc_intM1L1 (aaZ0 : Nat) (abZ0 : Nat) (adZ0 : Int) (v : Int × List Int × List Int) : St := ⟨[(0, .sl 1000000000 aaZ0 abZ0), (2, .i adZ0), (4, .fn 105 [.pt 1000000001 0 0]), (10, .i v.1)], [(1000000000, .arr 1 (v.2.1.map AV.i)), (1000000001, .var (.lst .o 1 (v.2.2.map AV.i)))]⟩
theorem w_slices_rotateCmpFunc_intM1L1 (aaZ0 : Nat) (abZ0 : Nat) (adZ0 : Int) (sZ1 : Int × Int × List Int × List Int) (o : (Int × Int × List Int × List Int) ⊕ (Int × List Int × List Int)) (h : M_slices_rotateCmpFunc_intM1L1 aaZ0 abZ0 adZ0 sZ1 = some o) : AWP (OkS Try.prog) A135M1L1 (qL [0, 2, 4, 10, 11] [1000000000, 1000000001] (S_slices_rotateCmpFunc_intM1L1 aaZ0 abZ0 adZ0) (qX 0 [0, 2, 4, 10] [1000000000, 1000000001] (SX_slices_rotateCmpFunc_intM1L1 aaZ0 abZ0 adZ0)) o) (S_slices_rotateCmpFunc_intM1L1 aaZ0 abZ0 adZ0 sZ1) := by
  unfold M_slices_rotateCmpFunc_intM1L1 at h
  simp only [ZC, S_slices_rotateCmpFunc_intM1L1, A135M1L1]
  obtain ⟨cZ2, h⟩ | ⟨cZ2, h⟩ := cond_s h
  · obtain ⟨cZ3, h⟩ | ⟨cZ3, h⟩ := cond_s h
    · obtain ⟨rZ4, hrZ4, h⟩ := bind_s h
      refine ZF (ZA cZ2 cZ3) ?_
      refine ZW (ZA cZ2 cZ3) (w_slices_swapRangeCmpFunc_intM1 _ _ _ _ _ _ _ hrZ4) (h2 := by first | exact nm_ok [1000000000, 1000000001] rfl (by decide +kernel) | exact nm_ok2 [1000000000, 1000000001] [] rfl (by decide +kernel) ZQ | exact ZQ) (hk := ?_)
      refine ZG ?_
      cases h
      exact ZL (ZA cZ2 cZ3) (ZA S_slices_rotateCmpFunc_intM1L1.eq_1 SX_slices_rotateCmpFunc_intM1L1.eq_1)
    · obtain ⟨rZ5, hrZ5, h⟩ := bind_s h
      refine ZF (ZA cZ2 cZ3) ?_
      refine ZW (ZA cZ2 cZ3) (w_slices_swapRangeCmpFunc_intM1 _ _ _ _ _ _ _ hrZ5) (h2 := by first | exact nm_ok [1000000000, 1000000001] rfl (by decide +kernel) | exact nm_ok2 [1000000000, 1000000001] [] rfl (by decide +kernel) ZQ | exact ZQ) (hk := ?_)
      refine ZG ?_
      cases h
      exact ZL (ZA cZ2 cZ3) (ZA S_slices_rotateCmpFunc_intM1L1.eq_1 SX_slices_rotateCmpFunc_intM1L1.eq_1)
  · cases h
    exact ZL cZ2 (ZA S_slices_rotateCmpFunc_intM1L1.eq_1 SX_slices_rotateCmpFunc_intM1L1.eq_1)
theorem w_slices_rotateCmpFunc_intM1 (aaZ0 : Nat) (abZ0 : Nat) (acZ0 : Int) (adZ0 : Int) (aeZ0 : Int) (afZ0 : List Int) (agZ0 : List Int) {r : List Int × List Int} (h : M_slices_rotateCmpFunc_intM1 aaZ0 abZ0 acZ0 adZ0 aeZ0 afZ0 agZ0 = some r) : OkM Try.prog 135 [.sl 1000000000 aaZ0 abZ0, .i acZ0, .i adZ0, .i aeZ0, .fn 105 [.pt 1000000001 0 0]] [(1000000000, .arr 1 (afZ0.map AV.i)), (1000000001, .var (.lst .o 1 (agZ0.map AV.i)))] ((fun (r : List Int × List Int) => .tup []) r) ((fun (r : List Int × List Int) => [(1000000000, .arr 1 (r.1.map AV.i)), (1000000001, .var (.lst .o 1 (r.2.map AV.i)))]) r) := by
  refine okM_of_body (lr := [1000000000, 1000000001]) hmix m135M1 rfl rfl ?_
  unfold M_slices_rotateCmpFunc_intM1 at h
  simp only [ZC, A135M1, V135M1]
  obtain ⟨oZ6, hoZ6, h⟩ := bind_s h
  try refine ZF trivial ?_
  refine join_rule0 (blk_rule0 (loop_rule (w_slices_rotateCmpFunc_intM1L1 aaZ0 abZ0 adZ0) hoZ6 ?_)) ?_
  · exact ZK (ZA S_slices_rotateCmpFunc_intM1L1.eq_1 SX_slices_rotateCmpFunc_intM1L1.eq_1)
  · simp only [ZC, SX_slices_rotateCmpFunc_intM1L1, A135M1R2]
    obtain ⟨rZ7, hrZ7, h⟩ := bind_s h
    refine ZF trivial ?_
    refine ZW trivial (w_slices_swapRangeCmpFunc_intM1 _ _ _ _ _ _ _ hrZ7) (h2 := by first | exact nm_ok [1000000000, 1000000001] rfl (by decide +kernel) | exact nm_ok2 [1000000000, 1000000001] [] rfl (by decide +kernel) ZQ | exact ZQ) (hk := ?_)
    refine ZG ?_
    cases h
    exact ZL trivial V135M1.eq_1
def S_slices_symMergeCmpFunc_intM1L1 (aaZ0 : Nat) (abZ0 : Nat) (acZ0 : Int) (afZ0 : List Int) (agZ0 : List Int) (v : Int × Int) : St := ⟨[(0, .sl 1000000000 aaZ0 abZ0), (1, .i acZ0), (4, .fn 105 [.pt 1000000001 0 0]), (10, .i v.1), (11, .i v.2)], [(1000000000, .arr 1 (afZ0.map AV.i)), (1000000001, .var (.lst .o 1 (agZ0.map AV.i)))]⟩
def SX_slices_symMergeCmpFunc_intM1L1 (aaZ0 : Nat) (abZ0 : Nat) (acZ0 : Int) (afZ0 : List Int) (agZ0 : List Int) (v : Int) : St := ⟨[(0, .sl 1000000000 aaZ0 abZ0), (1, .i acZ0), (10, .i v)], [(1000000000, .arr 1 (afZ0.map AV.i)), (1000000001, .var (.lst .o 1 (agZ0.map AV.i)))]⟩
theorem w_slices_symMergeCmpFunc_intM1L1 (aaZ0 : Nat) (abZ0 : Nat) (acZ0 : Int) (adZ0 : Int) (aeZ0 : Int) (afZ0 : List Int) (agZ0 : List Int) (rcZ0 : Nat → Nat → Int → Int → Int → List Int → List Int → Option (List Int × List Int)) (ihZ0 : ∀ (aaZ0 : Nat) (abZ0 : Nat) (acZ0 : Int) (adZ0 : Int) (aeZ0 : Int) (afZ0 : List Int) (agZ0 : List Int) {r : List Int × List Int}, rcZ0 aaZ0 abZ0 acZ0 adZ0 aeZ0 afZ0 agZ0 = some r → OkM Try.prog 129 [.sl 1000000000 aaZ0 abZ0, .i acZ0, .i adZ0, .i aeZ0, .fn 105 [.pt 1000000001 0 0]] [(1000000000, .arr 1 (afZ0.map AV.i)), (1000000001, .var (.lst .o 1 (agZ0.map AV.i)))] ((fun (r : List Int × List Int) => .tup []) r) ((fun (r : List Int × List Int) => [(1000000000, .arr 1 (r.1.map AV.i)), (1000000001, .var (.lst .o 1 (r.2.map AV.i)))]) r)) (sZ2 : Int × Int) (o : (Int × Int) ⊕ Int) (h : M_slices_symMergeCmpFunc_intM1L1 aaZ0 abZ0 acZ0 afZ0 agZ0 sZ2 = some o) : AWP (OkS Try.prog) A129M1L1 (qL [0, 1, 4, 10, 11] [1000000000, 1000000001] (S_slices_symMergeCmpFunc_intM1L1 aaZ0 abZ0 acZ0 afZ0 agZ0) (qX 0 [0, 1, 10] [1000000000, 1000000001] (SX_slices_symMergeCmpFunc_intM1L1 aaZ0 abZ0 acZ0 afZ0 agZ0)) o) (S_slices_symMergeCmpFunc_intM1L1 aaZ0 abZ0 acZ0 afZ0 agZ0 sZ2) := by
  unfold M_slices_symMergeCmpFunc_intM1L1 at h
  simp only [ZC, S_slices_symMergeCmpFunc_intM1L1, A129M1L1]
  obtain ⟨cZ3, h⟩ | ⟨cZ3, h⟩ := cond_s h
  · obtain ⟨kZ4, hkZ4, h⟩ := bind_s h
    obtain ⟨hkZ4a, hkZ4b⟩ := grd_s hkZ4
    obtain ⟨yZ5, hyZ5, h⟩ := bind_s h
    obtain ⟨kZ6, hkZ6, h⟩ := bind_s h
    obtain ⟨hkZ6a, hkZ6b⟩ := grd_s hkZ6
    obtain ⟨yZ7, hyZ7, h⟩ := bind_s h
    obtain ⟨rZ8, hrZ8, h⟩ := bind_s h
    refine ZF (ZA cZ3 (ZA hkZ4a (ZA hkZ4b (ZA hyZ5 (ZA hkZ6a (ZA hkZ6b hyZ7)))))) ?_
    refine ZS (ZA cZ3 (ZA hkZ4a (ZA hkZ4b (ZA hyZ5 (ZA hkZ6a (ZA hkZ6b hyZ7)))))) (w_impl_descending_c1 _ _ _ hrZ8) ?_
    refine ZG ?_
    obtain ⟨cZ9, h⟩ | ⟨cZ9, h⟩ := cond_s h
    · cases h
      exact ZL (ZA cZ3 (ZA hkZ4a (ZA hkZ4b (ZA hyZ5 (ZA hkZ6a (ZA hkZ6b (ZA hyZ7 cZ9))))))) (ZA S_slices_symMergeCmpFunc_intM1L1.eq_1 SX_slices_symMergeCmpFunc_intM1L1.eq_1)
    · cases h
      exact ZL (ZA cZ3 (ZA hkZ4a (ZA hkZ4b (ZA hyZ5 (ZA hkZ6a (ZA hkZ6b (ZA hyZ7 cZ9))))))) (ZA S_slices_symMergeCmpFunc_intM1L1.eq_1 SX_slices_symMergeCmpFunc_intM1L1.eq_1)
  · cases h
    exact ZL cZ3 (ZA S_slices_symMergeCmpFunc_intM1L1.eq_1 SX_slices_symMergeCmpFunc_intM1L1.eq_1)
def S_slices_symMergeCmpFunc_intM1L2 (aaZ0 : Nat) (abZ0 : Nat) (agZ0 : List Int) (oZ10 : Int) (v : Int × List Int) : St := ⟨[(0, .sl 1000000000 aaZ0 abZ0), (10, .i oZ10), (13, .i v.1)], [(1000000000, .arr 1 (v.2.map AV.i)), (1000000001, .var (.lst .o 1 (agZ0.map AV.i)))]⟩
def SX_slices_symMergeCmpFunc_intM1L2 (agZ0 : List Int) (v : List Int) : St := ⟨[], [(1000000000, .arr 1 (v.map AV.i)), (1000000001, .var (.lst .o 1 (agZ0.map AV.i)))]⟩
theorem w_slices_symMergeCmpFunc_intM1L2 (aaZ0 : Nat) (abZ0 : Nat) (acZ0 : Int) (adZ0 : Int) (aeZ0 : Int) (afZ0 : List Int) (agZ0 : List Int) (rcZ0 : Nat → Nat → Int → Int → Int → List Int → List Int → Option (List Int × List Int)) (oZ10 : Int) (ihZ0 : ∀ (aaZ0 : Nat) (abZ0 : Nat) (acZ0 : Int) (adZ0 : Int) (aeZ0 : Int) (afZ0 : List Int) (agZ0 : List Int) {r : List Int × List Int}, rcZ0 aaZ0 abZ0 acZ0 adZ0 aeZ0 afZ0 agZ0 = some r → OkM Try.prog 129 [.sl 1000000000 aaZ0 abZ0, .i acZ0, .i adZ0, .i aeZ0, .fn 105 [.pt 1000000001 0 0]] [(1000000000, .arr 1 (afZ0.map AV.i)), (1000000001, .var (.lst .o 1 (agZ0.map AV.i)))] ((fun (r : List Int × List Int) => .tup []) r) ((fun (r : List Int × List Int) => [(1000000000, .arr 1 (r.1.map AV.i)), (1000000001, .var (.lst .o 1 (r.2.map AV.i)))]) r)) (sZ11 : Int × List Int) (o : (Int × List Int) ⊕ (List Int)) (h : M_slices_symMergeCmpFunc_intM1L2 aaZ0 abZ0 oZ10 sZ11 = some o) : AWP (OkS Try.prog) A129M1L3 (qL [0, 10, 13] [1000000000, 1000000001] (S_slices_symMergeCmpFunc_intM1L2 aaZ0 abZ0 agZ0 oZ10) (qX 2 [] [1000000000, 1000000001] (SX_slices_symMergeCmpFunc_intM1L2 agZ0)) o) (S_slices_symMergeCmpFunc_intM1L2 aaZ0 abZ0 agZ0 oZ10 sZ11) := by
  unfold M_slices_symMergeCmpFunc_intM1L2 at h
  simp only [ZC, S_slices_symMergeCmpFunc_intM1L2, A129M1L3]
  obtain ⟨cZ12, h⟩ | ⟨cZ12, h⟩ := cond_s h
  · obtain ⟨kZ13, hkZ13, h⟩ := bind_s h
    obtain ⟨hkZ13a, hkZ13b⟩ := grd_s hkZ13
    obtain ⟨yZ14, hyZ14, h⟩ := bind_s h
    obtain ⟨kZ15, hkZ15, h⟩ := bind_s h
    obtain ⟨hkZ15a, hkZ15b⟩ := grd_s hkZ15
    obtain ⟨yZ16, hyZ16, h⟩ := bind_s h
    obtain ⟨lZ17, hlZ17, h⟩ := bnd_s h
    have eZ18 : (sZ11.2.map AV.i).set (aaZ0 + (Int.toNat sZ11.1)) (.i yZ14) = lZ17.map AV.i := by rw [← hlZ17, List.map_set]
    obtain ⟨yZ19, hyZ19, h⟩ := bind_s h
    obtain ⟨lZ20, hlZ20, h⟩ := bnd_s h
    have eZ21 : (lZ17.map AV.i).set (aaZ0 + (Int.toNat (IntKind.wrap .i64 (sZ11.1 + 1)))) (.i yZ16) = lZ20.map AV.i := by rw [← hlZ20, List.map_set]
    cases h
    exact ZL (ZA cZ12 (ZA hkZ13a (ZA hkZ13b (ZA hyZ14 (ZA hkZ15a (ZA hkZ15b (ZA hyZ16 (ZA eZ18 (ZA hyZ19 eZ21))))))))) (ZA S_slices_symMergeCmpFunc_intM1L2.eq_1 (ZA SX_slices_symMergeCmpFunc_intM1L2.eq_1 (ZA hlZ17.symm hlZ20.symm)))
  · cases h
    exact ZL cZ12 (ZA S_slices_symMergeCmpFunc_intM1L2.eq_1 SX_slices_symMergeCmpFunc_intM1L2.eq_1)
def S_slices_symMergeCmpFunc_intM1L3 (aaZ0 : Nat) (abZ0 : Nat) (adZ0 : Int) (afZ0 : List Int) (agZ0 : List Int) (v : Int × Int) : St := ⟨[(0, .sl 1000000000 aaZ0 abZ0), (2, .i adZ0), (4, .fn 105 [.pt 1000000001 0 0]), (14, .i v.1), (15, .i v.2)], [(1000000000, .arr 1 (afZ0.map AV.i)), (1000000001, .var (.lst .o 1 (agZ0.map AV.i)))]⟩
def SX_slices_symMergeCmpFunc_intM1L3 (aaZ0 : Nat) (abZ0 : Nat) (adZ0 : Int) (afZ0 : List Int) (agZ0 : List Int) (v : Int) : St := ⟨[(0, .sl 1000000000 aaZ0 abZ0), (2, .i adZ0), (14, .i v)], [(1000000000, .arr 1 (afZ0.map AV.i)), (1000000001, .var (.lst .o 1 (agZ0.map AV.i)))]⟩
theorem w_slices_symMergeCmpFunc_intM1L3 (aaZ0 : Nat) (abZ0 : Nat) (acZ0 : Int) (adZ0 : Int) (aeZ0 : Int) (afZ0 : List Int) (agZ0 : List Int) (rcZ0 : Nat → Nat → Int → Int → Int → List Int → List Int → Option (List Int × List Int)) (ihZ0 : ∀ (aaZ0 : Nat) (abZ0 : Nat) (acZ0 : Int) (adZ0 : Int) (aeZ0 : Int) (afZ0 : List Int) (agZ0 : List Int) {r : List Int × List Int}, rcZ0 aaZ0 abZ0 acZ0 adZ0 aeZ0 afZ0 agZ0 = some r → OkM Try.prog 129 [.sl 1000000000 aaZ0 abZ0, .i acZ0, .i adZ0, .i aeZ0, .fn 105 [.pt 1000000001 0 0]] [(1000000000, .arr 1 (afZ0.map AV.i)), (1000000001, .var (.lst .o 1 (agZ0.map AV.i)))] ((fun (r : List Int × List Int) => .tup []) r) ((fun (r : List Int × List Int) => [(1000000000, .arr 1 (r.1.map AV.i)), (1000000001, .var (.lst .o 1 (r.2.map AV.i)))]) r)) (sZ24 : Int × Int) (o : (Int × Int) ⊕ Int) (h : M_slices_symMergeCmpFunc_intM1L3 aaZ0 abZ0 adZ0 afZ0 agZ0 sZ24 = some o) : AWP (OkS Try.prog) A129M1L5 (qL [0, 2, 4, 14, 15] [1000000000, 1000000001] (S_slices_symMergeCmpFunc_intM1L3 aaZ0 abZ0 adZ0 afZ0 agZ0) (qX 4 [0, 2, 14] [1000000000, 1000000001] (SX_slices_symMergeCmpFunc_intM1L3 aaZ0 abZ0 adZ0 afZ0 agZ0)) o) (S_slices_symMergeCmpFunc_intM1L3 aaZ0 abZ0 adZ0 afZ0 agZ0 sZ24) := by
  unfold M_slices_symMergeCmpFunc_intM1L3 at h
  simp only [ZC, S_slices_symMergeCmpFunc_intM1L3, A129M1L5]
  obtain ⟨cZ25, h⟩ | ⟨cZ25, h⟩ := cond_s h
  · obtain ⟨kZ26, hkZ26, h⟩ := bind_s h
    obtain ⟨hkZ26a, hkZ26b⟩ := grd_s hkZ26
    obtain ⟨yZ27, hyZ27, h⟩ := bind_s h
    obtain ⟨kZ28, hkZ28, h⟩ := bind_s h
    obtain ⟨hkZ28a, hkZ28b⟩ := grd_s hkZ28
    obtain ⟨yZ29, hyZ29, h⟩ := bind_s h
    obtain ⟨rZ30, hrZ30, h⟩ := bind_s h
    refine ZF (ZA cZ25 (ZA hkZ26a (ZA hkZ26b (ZA hyZ27 (ZA hkZ28a (ZA hkZ28b hyZ29)))))) ?_
    refine ZS (ZA cZ25 (ZA hkZ26a (ZA hkZ26b (ZA hyZ27 (ZA hkZ28a (ZA hkZ28b hyZ29)))))) (w_impl_descending_c1 _ _ _ hrZ30) ?_
    refine ZG ?_
    obtain ⟨cZ31, h⟩ | ⟨cZ31, h⟩ := cond_s h
    · cases h
      exact ZL (ZA cZ25 (ZA hkZ26a (ZA hkZ26b (ZA hyZ27 (ZA hkZ28a (ZA hkZ28b (ZA hyZ29 cZ31))))))) (ZA S_slices_symMergeCmpFunc_intM1L3.eq_1 SX_slices_symMergeCmpFunc_intM1L3.eq_1)
    · cases h
      exact ZL (ZA cZ25 (ZA hkZ26a (ZA hkZ26b (ZA hyZ27 (ZA hkZ28a (ZA hkZ28b (ZA hyZ29 cZ31))))))) (ZA S_slices_symMergeCmpFunc_intM1L3.eq_1 SX_slices_symMergeCmpFunc_intM1L3.eq_1)
  · cases h
    exact ZL cZ25 (ZA S_slices_symMergeCmpFunc_intM1L3.eq_1 SX_slices_symMergeCmpFunc_intM1L3.eq_1)
def S_slices_symMergeCmpFunc_intM1L4 (aaZ0 : Nat) (abZ0 : Nat) (agZ0 : List Int) (oZ32 : Int) (v : Int × List Int) : St := ⟨[(0, .sl 1000000000 aaZ0 abZ0), (14, .i oZ32), (17, .i v.1)], [(1000000000, .arr 1 (v.2.map AV.i)), (1000000001, .var (.lst .o 1 (agZ0.map AV.i)))]⟩
def SX_slices_symMergeCmpFunc_intM1L4 (agZ0 : List Int) (v : List Int) : St := ⟨[], [(1000000000, .arr 1 (v.map AV.i)), (1000000001, .var (.lst .o 1 (agZ0.map AV.i)))]⟩
theorem w_slices_symMergeCmpFunc_intM1L4 (aaZ0 : Nat) (abZ0 : Nat) (acZ0 : Int) (adZ0 : Int) (aeZ0 : Int) (afZ0 : List Int) (agZ0 : List Int) (rcZ0 : Nat → Nat → Int → Int → Int → List Int → List Int → Option (List Int × List Int)) (oZ32 : Int) (ihZ0 : ∀ (aaZ0 : Nat) (abZ0 : Nat) (acZ0 : Int) (adZ0 : Int) (aeZ0 : Int) (afZ0 : List Int) (agZ0 : List Int) {r : List Int × List Int}, rcZ0 aaZ0 abZ0 acZ0 adZ0 aeZ0 afZ0 agZ0 = some r → OkM Try.prog 129 [.sl 1000000000 aaZ0 abZ0, .i acZ0, .i adZ0, .i aeZ0, .fn 105 [.pt 1000000001 0 0]] [(1000000000, .arr 1 (afZ0.map AV.i)), (1000000001, .var (.lst .o 1 (agZ0.map AV.i)))] ((fun (r : List Int × List Int) => .tup []) r) ((fun (r : List Int × List Int) => [(1000000000, .arr 1 (r.1.map AV.i)), (1000000001, .var (.lst .o 1 (r.2.map AV.i)))]) r)) (sZ33 : Int × List Int) (o : (Int × List Int) ⊕ (List Int)) (h : M_slices_symMergeCmpFunc_intM1L4 aaZ0 abZ0 oZ32 sZ33 = some o) : AWP (OkS Try.prog) A129M1L7 (qL [0, 14, 17] [1000000000, 1000000001] (S_slices_symMergeCmpFunc_intM1L4 aaZ0 abZ0 agZ0 oZ32) (qX 6 [] [1000000000, 1000000001] (SX_slices_symMergeCmpFunc_intM1L4 agZ0)) o) (S_slices_symMergeCmpFunc_intM1L4 aaZ0 abZ0 agZ0 oZ32 sZ33) := by
  unfold M_slices_symMergeCmpFunc_intM1L4 at h
  simp only [ZC, S_slices_symMergeCmpFunc_intM1L4, A129M1L7]
  obtain ⟨cZ34, h⟩ | ⟨cZ34, h⟩ := cond_s h
  · obtain ⟨kZ35, hkZ35, h⟩ := bind_s h
    obtain ⟨hkZ35a, hkZ35b⟩ := grd_s hkZ35
    obtain ⟨yZ36, hyZ36, h⟩ := bind_s h
    obtain ⟨kZ37, hkZ37, h⟩ := bind_s h
    obtain ⟨hkZ37a, hkZ37b⟩ := grd_s hkZ37
    obtain ⟨yZ38, hyZ38, h⟩ := bind_s h
    obtain ⟨lZ39, hlZ39, h⟩ := bnd_s h
    have eZ40 : (sZ33.2.map AV.i).set (aaZ0 + (Int.toNat sZ33.1)) (.i yZ36) = lZ39.map AV.i := by rw [← hlZ39, List.map_set]
    obtain ⟨yZ41, hyZ41, h⟩ := bind_s h
    obtain ⟨lZ42, hlZ42, h⟩ := bnd_s h
    have eZ43 : (lZ39.map AV.i).set (aaZ0 + (Int.toNat (IntKind.wrap .i64 (sZ33.1 - 1)))) (.i yZ38) = lZ42.map AV.i := by rw [← hlZ42, List.map_set]
    cases h
    exact ZL (ZA cZ34 (ZA hkZ35a (ZA hkZ35b (ZA hyZ36 (ZA hkZ37a (ZA hkZ37b (ZA hyZ38 (ZA eZ40 (ZA hyZ41 eZ43))))))))) (ZA S_slices_symMergeCmpFunc_intM1L4.eq_1 (ZA SX_slices_symMergeCmpFunc_intM1L4.eq_1 (ZA hlZ39.symm hlZ42.symm)))
  · cases h
    exact ZL cZ34 (ZA S_slices_symMergeCmpFunc_intM1L4.eq_1 SX_slices_symMergeCmpFunc_intM1L4.eq_1)
def S_slices_symMergeCmpFunc_intM1L5 (aaZ0 : Nat) (abZ0 : Nat) (acZ0 : Int) (adZ0 : Int) (aeZ0 : Int) (afZ0 : List Int) (agZ0 : List Int) (v : Int × Int) : St := ⟨[(0, .sl 1000000000 aaZ0 abZ0), (1, .i acZ0), (2, .i adZ0), (3, .i aeZ0), (4, .fn 105 [.pt 1000000001 0 0]), (18, .i (IntKind.wrap .i64 (Int.fdiv (IntKind.wrap .u64 (IntKind.wrap .i64 (acZ0 + aeZ0))) (2 ^ (min (Int.toNat 1) (IntKind.bits .u64)))))), (19, .i (IntKind.wrap .i64 ((IntKind.wrap .i64 (Int.fdiv (IntKind.wrap .u64 (IntKind.wrap .i64 (acZ0 + aeZ0))) (2 ^ (min (Int.toNat 1) (IntKind.bits .u64))))) + adZ0))), (20, .i v.1), (21, .i v.2), (22, .i (IntKind.wrap .i64 ((IntKind.wrap .i64 ((IntKind.wrap .i64 (Int.fdiv (IntKind.wrap .u64 (IntKind.wrap .i64 (acZ0 + aeZ0))) (2 ^ (min (Int.toNat 1) (IntKind.bits .u64))))) + adZ0)) - 1)))], [(1000000000, .arr 1 (afZ0.map AV.i)), (1000000001, .var (.lst .o 1 (agZ0.map AV.i)))]⟩
def SX_slices_symMergeCmpFunc_intM1L5 (aaZ0 : Nat) (abZ0 : Nat) (acZ0 : Int) (adZ0 : Int) (aeZ0 : Int) (afZ0 : List Int) (agZ0 : List Int) (v : Int) : St := ⟨[(0, .sl 1000000000 aaZ0 abZ0), (1, .i acZ0), (2, .i adZ0), (3, .i aeZ0), (4, .fn 105 [.pt 1000000001 0 0]), (18, .i (IntKind.wrap .i64 (Int.fdiv (IntKind.wrap .u64 (IntKind.wrap .i64 (acZ0 + aeZ0))) (2 ^ (min (Int.toNat 1) (IntKind.bits .u64)))))), (19, .i (IntKind.wrap .i64 ((IntKind.wrap .i64 (Int.fdiv (IntKind.wrap .u64 (IntKind.wrap .i64 (acZ0 + aeZ0))) (2 ^ (min (Int.toNat 1) (IntKind.bits .u64))))) + adZ0))), (20, .i v)], [(1000000000, .arr 1 (afZ0.map AV.i)), (1000000001, .var (.lst .o 1 (agZ0.map AV.i)))]⟩
theorem w_slices_symMergeCmpFunc_intM1L5 (aaZ0 : Nat) (abZ0 : Nat) (acZ0 : Int) (adZ0 : Int) (aeZ0 : Int) (afZ0 : List Int) (agZ0 : List Int) (rcZ0 : Nat → Nat → Int → Int → Int → List Int → List Int → Option (List Int × List Int)) (ihZ0 : ∀ (aaZ0 : Nat) (abZ0 : Nat) (acZ0 : Int) (adZ0 : Int) (aeZ0 : Int) (afZ0 : List Int) (agZ0 : List Int) {r : List Int × List Int}, rcZ0 aaZ0 abZ0 acZ0 adZ0 aeZ0 afZ0 agZ0 = some r → OkM Try.prog 129 [.sl 1000000000 aaZ0 abZ0, .i acZ0, .i adZ0, .i aeZ0, .fn 105 [.pt 1000000001 0 0]] [(1000000000, .arr 1 (afZ0.map AV.i)), (1000000001, .var (.lst .o 1 (agZ0.map AV.i)))] ((fun (r : List Int × List Int) => .tup []) r) ((fun (r : List Int × List Int) => [(1000000000, .arr 1 (r.1.map AV.i)), (1000000001, .var (.lst .o 1 (r.2.map AV.i)))]) r)) (sZ47 : Int × Int) (o : (Int × Int) ⊕ Int) (h : M_slices_symMergeCmpFunc_intM1L5 aaZ0 abZ0 acZ0 adZ0 aeZ0 afZ0 agZ0 sZ47 = some o) : AWP (OkS Try.prog) A129M1L10 (qL [0, 1, 2, 3, 4, 18, 19, 20, 21, 22] [1000000000, 1000000001] (S_slices_symMergeCmpFunc_intM1L5 aaZ0 abZ0 acZ0 adZ0 aeZ0 afZ0 agZ0) (qX 8 [0, 1, 2, 3, 4, 18, 19, 20] [1000000000, 1000000001] (SX_slices_symMergeCmpFunc_intM1L5 aaZ0 abZ0 acZ0 adZ0 aeZ0 afZ0 agZ0)) o) (S_slices_symMergeCmpFunc_intM1L5 aaZ0 abZ0 acZ0 adZ0 aeZ0 afZ0 agZ0 sZ47) := by
  unfold M_slices_symMergeCmpFunc_intM1L5 at h
  simp only [ZC, S_slices_symMergeCmpFunc_intM1L5, A129M1L10]
  obtain ⟨cZ48, h⟩ | ⟨cZ48, h⟩ := cond_s h
  · obtain ⟨kZ49, hkZ49, h⟩ := bind_s h
    obtain ⟨hkZ49a, hkZ49b⟩ := grd_s hkZ49
    obtain ⟨yZ50, hyZ50, h⟩ := bind_s h
    obtain ⟨kZ51, hkZ51, h⟩ := bind_s h
    obtain ⟨hkZ51a, hkZ51b⟩ := grd_s hkZ51
    obtain ⟨yZ52, hyZ52, h⟩ := bind_s h
    obtain ⟨rZ53, hrZ53, h⟩ := bind_s h
    refine ZF (ZA cZ48 (ZA hkZ49a (ZA hkZ49b (ZA hyZ50 (ZA hkZ51a (ZA hkZ51b hyZ52)))))) ?_
    refine ZS (ZA cZ48 (ZA hkZ49a (ZA hkZ49b (ZA hyZ50 (ZA hkZ51a (ZA hkZ51b hyZ52)))))) (w_impl_descending_c1 _ _ _ hrZ53) ?_
    refine ZG ?_
    obtain ⟨cZ54, h⟩ | ⟨cZ54, h⟩ := cond_s h
    · cases h
      exact ZL (ZA cZ48 (ZA hkZ49a (ZA hkZ49b (ZA hyZ50 (ZA hkZ51a (ZA hkZ51b (ZA hyZ52 cZ54))))))) (ZA S_slices_symMergeCmpFunc_intM1L5.eq_1 SX_slices_symMergeCmpFunc_intM1L5.eq_1)
    · cases h
      exact ZL (ZA cZ48 (ZA hkZ49a (ZA hkZ49b (ZA hyZ50 (ZA hkZ51a (ZA hkZ51b (ZA hyZ52 cZ54))))))) (ZA S_slices_symMergeCmpFunc_intM1L5.eq_1 SX_slices_symMergeCmpFunc_intM1L5.eq_1)
  · cases h
    exact ZL cZ48 (ZA S_slices_symMergeCmpFunc_intM1L5.eq_1 SX_slices_symMergeCmpFunc_intM1L5.eq_1)
theorem wB_slices_symMergeCmpFunc_intM1 (rcZ0 : Nat → Nat → Int → Int → Int → List Int → List Int → Option (List Int × List Int)) (ihZ0 : ∀ (aaZ0 : Nat) (abZ0 : Nat) (acZ0 : Int) (adZ0 : Int) (aeZ0 : Int) (afZ0 : List Int) (agZ0 : List Int) {r : List Int × List Int}, rcZ0 aaZ0 abZ0 acZ0 adZ0 aeZ0 afZ0 agZ0 = some r → OkM Try.prog 129 [.sl 1000000000 aaZ0 abZ0, .i acZ0, .i adZ0, .i aeZ0, .fn 105 [.pt 1000000001 0 0]] [(1000000000, .arr 1 (afZ0.map AV.i)), (1000000001, .var (.lst .o 1 (agZ0.map AV.i)))] ((fun (r : List Int × List Int) => .tup []) r) ((fun (r : List Int × List Int) => [(1000000000, .arr 1 (r.1.map AV.i)), (1000000001, .var (.lst .o 1 (r.2.map AV.i)))]) r)) (aaZ0 : Nat) (abZ0 : Nat) (acZ0 : Int) (adZ0 : Int) (aeZ0 : Int) (afZ0 : List Int) (agZ0 : List Int) {r : List Int × List Int} (h : M_slices_symMergeCmpFunc_intM1_B rcZ0 aaZ0 abZ0 acZ0 adZ0 aeZ0 afZ0 agZ0 = some r) : OkM Try.prog 129 [.sl 1000000000 aaZ0 abZ0, .i acZ0, .i adZ0, .i aeZ0, .fn 105 [.pt 1000000001 0 0]] [(1000000000, .arr 1 (afZ0.map AV.i)), (1000000001, .var (.lst .o 1 (agZ0.map AV.i)))] ((fun (r : List Int × List Int) => .tup []) r) ((fun (r : List Int × List Int) => [(1000000000, .arr 1 (r.1.map AV.i)), (1000000001, .var (.lst .o 1 (r.2.map AV.i)))]) r) := by
  refine okM_of_body (lr := [1000000000, 1000000001]) hmix m129M1 rfl rfl ?_
  unfold M_slices_symMergeCmpFunc_intM1_B at h
  simp only [ZC, A129M1, V129M1]
  obtain ⟨cZ1, h⟩ | ⟨cZ1, h⟩ := cond_s h
  · obtain ⟨oZ10, hoZ10, h⟩ := bind_s h
    try refine ZF cZ1 ?_
    refine join_rule0 (blk_rule0 (loop_rule (w_slices_symMergeCmpFunc_intM1L1 aaZ0 abZ0 acZ0 adZ0 aeZ0 afZ0 agZ0 rcZ0 ihZ0) hoZ10 ?_)) ?_
    · exact ZK (ZA S_slices_symMergeCmpFunc_intM1L1.eq_1 SX_slices_symMergeCmpFunc_intM1L1.eq_1)
    · simp only [ZC, SX_slices_symMergeCmpFunc_intM1L1, A129M1R2]
      obtain ⟨oZ22, hoZ22, h⟩ := bind_s h
      try refine ZF cZ1 ?_
      refine join_rule0 (blk_rule0 (loop_rule (w_slices_symMergeCmpFunc_intM1L2 aaZ0 abZ0 acZ0 adZ0 aeZ0 afZ0 agZ0 rcZ0 oZ10 ihZ0) hoZ22 ?_)) ?_
      · exact ZK (ZA S_slices_symMergeCmpFunc_intM1L2.eq_1 SX_slices_symMergeCmpFunc_intM1L2.eq_1)
      · simp only [ZC, SX_slices_symMergeCmpFunc_intM1L2, A129M1R4]
        cases h
        exact ZL cZ1 V129M1.eq_1
  · obtain ⟨cZ23, h⟩ | ⟨cZ23, h⟩ := cond_s h
    · obtain ⟨oZ32, hoZ32, h⟩ := bind_s h
      try refine ZF (ZA cZ1 cZ23) ?_
      refine join_rule0 (blk_rule0 (loop_rule (w_slices_symMergeCmpFunc_intM1L3 aaZ0 abZ0 acZ0 adZ0 aeZ0 afZ0 agZ0 rcZ0 ihZ0) hoZ32 ?_)) ?_
      · exact ZK (ZA S_slices_symMergeCmpFunc_intM1L3.eq_1 SX_slices_symMergeCmpFunc_intM1L3.eq_1)
      · simp only [ZC, SX_slices_symMergeCmpFunc_intM1L3, A129M1R6]
        obtain ⟨oZ44, hoZ44, h⟩ := bind_s h
        try refine ZF (ZA cZ1 cZ23) ?_
        refine join_rule0 (blk_rule0 (loop_rule (w_slices_symMergeCmpFunc_intM1L4 aaZ0 abZ0 acZ0 adZ0 aeZ0 afZ0 agZ0 rcZ0 oZ32 ihZ0) hoZ44 ?_)) ?_
        · exact ZK (ZA S_slices_symMergeCmpFunc_intM1L4.eq_1 SX_slices_symMergeCmpFunc_intM1L4.eq_1)
        · simp only [ZC, SX_slices_symMergeCmpFunc_intM1L4, A129M1R8]
          cases h
          exact ZL (ZA cZ1 cZ23) V129M1.eq_1
    · obtain ⟨oZ46, hoZ46, h⟩ := bind_s h
      try refine ZF (ZA cZ1 cZ23) ?_
      refine join_rule0 (sh := (fun v => ⟨[(0, .sl 1000000000 aaZ0 abZ0), (1, .i acZ0), (2, .i adZ0), (3, .i aeZ0), (4, .fn 105 [.pt 1000000001 0 0]), (18, .i (IntKind.wrap .i64 (Int.fdiv (IntKind.wrap .u64 (IntKind.wrap .i64 (acZ0 + aeZ0))) (2 ^ (min (Int.toNat 1) (IntKind.bits .u64)))))), (19, .i (IntKind.wrap .i64 ((IntKind.wrap .i64 (Int.fdiv (IntKind.wrap .u64 (IntKind.wrap .i64 (acZ0 + aeZ0))) (2 ^ (min (Int.toNat 1) (IntKind.bits .u64))))) + adZ0))), (20, .i v.1), (21, .i v.2)], [(1000000000, .arr 1 (afZ0.map AV.i)), (1000000001, .var (.lst .o 1 (agZ0.map AV.i)))]⟩)) (s := oZ46) ?_ ?_
      · replace h := hoZ46
        obtain ⟨cZ45, h⟩ | ⟨cZ45, h⟩ := cond_s h
        · cases h
          exact ZL (ZA cZ1 (ZA cZ23 cZ45)) trivial
        · cases h
          exact ZL (ZA cZ1 (ZA cZ23 cZ45)) trivial
      · simp only [ZC, A129M1R9]
        obtain ⟨oZ55, hoZ55, h⟩ := bind_s h
        try refine ZF (ZA cZ1 cZ23) ?_
        refine join_rule0 (blk_rule0 (loop_rule (w_slices_symMergeCmpFunc_intM1L5 aaZ0 abZ0 acZ0 adZ0 aeZ0 afZ0 agZ0 rcZ0 ihZ0) hoZ55 ?_)) ?_
        · exact ZK (ZA S_slices_symMergeCmpFunc_intM1L5.eq_1 SX_slices_symMergeCmpFunc_intM1L5.eq_1)
        · simp only [ZC, SX_slices_symMergeCmpFunc_intM1L5, A129M1R11]
          obtain ⟨oZ60, hoZ60, h⟩ := bind_s h
          try refine ZF (ZA cZ1 cZ23) ?_
          refine join_rule0 (sh := (fun v => ⟨[(0, .sl 1000000000 aaZ0 abZ0), (1, .i acZ0), (3, .i aeZ0), (4, .fn 105 [.pt 1000000001 0 0]), (18, .i (IntKind.wrap .i64 (Int.fdiv (IntKind.wrap .u64 (IntKind.wrap .i64 (acZ0 + aeZ0))) (2 ^ (min (Int.toNat 1) (IntKind.bits .u64)))))), (20, .i oZ55), (24, .i (IntKind.wrap .i64 ((IntKind.wrap .i64 ((IntKind.wrap .i64 (Int.fdiv (IntKind.wrap .u64 (IntKind.wrap .i64 (acZ0 + aeZ0))) (2 ^ (min (Int.toNat 1) (IntKind.bits .u64))))) + adZ0)) - oZ55)))], [(1000000000, .arr 1 (v.1.map AV.i)), (1000000001, .var (.lst .o 1 (v.2.map AV.i)))]⟩)) (s := oZ60) ?_ ?_
          · replace h := hoZ60
            obtain ⟨oZ57, hoZ57, h⟩ := bind_s h
            try refine ZF (ZA cZ1 cZ23) ?_
            refine join_rule0 (sh := (fun v => ⟨[(0, .sl 1000000000 aaZ0 abZ0), (1, .i acZ0), (2, .i adZ0), (3, .i aeZ0), (4, .fn 105 [.pt 1000000001 0 0]), (18, .i (IntKind.wrap .i64 (Int.fdiv (IntKind.wrap .u64 (IntKind.wrap .i64 (acZ0 + aeZ0))) (2 ^ (min (Int.toNat 1) (IntKind.bits .u64)))))), (20, .i oZ55), (24, .i (IntKind.wrap .i64 ((IntKind.wrap .i64 ((IntKind.wrap .i64 (Int.fdiv (IntKind.wrap .u64 (IntKind.wrap .i64 (acZ0 + aeZ0))) (2 ^ (min (Int.toNat 1) (IntKind.bits .u64))))) + adZ0)) - oZ55))), (185, .b v)], [(1000000000, .arr 1 (afZ0.map AV.i)), (1000000001, .var (.lst .o 1 (agZ0.map AV.i)))]⟩)) (s := oZ57) ?_ ?_
            · replace h := hoZ57
              obtain ⟨cZ56, h⟩ | ⟨cZ56, h⟩ := cond_s h
              · cases h
                exact ZL (ZA cZ1 (ZA cZ23 cZ56)) trivial
              · cases h
                exact ZL (ZA cZ1 (ZA cZ23 cZ56)) trivial
            · simp only [ZC, A129M1R12]
              obtain ⟨cZ58, h⟩ | ⟨cZ58, h⟩ := cond_s h
              · obtain ⟨rZ59, hrZ59, h⟩ := bind_s h
                refine ZF (ZA cZ1 (ZA cZ23 cZ58)) ?_
                refine ZW (ZA cZ1 (ZA cZ23 cZ58)) (w_slices_rotateCmpFunc_intM1 _ _ _ _ _ _ _ hrZ59) (h2 := by first | exact nm_ok [1000000000, 1000000001] rfl (by decide +kernel) | exact nm_ok2 [1000000000, 1000000001] [] rfl (by decide +kernel) ZQ | exact ZQ) (hk := ?_)
                refine ZG ?_
                cases h
                exact ZL (ZA cZ1 (ZA cZ23 cZ58)) trivial
              · cases h
                exact ZL (ZA cZ1 (ZA cZ23 cZ58)) trivial
          · simp only [ZC, A129M1R13]
            obtain ⟨oZ65, hoZ65, h⟩ := bind_s h
            try refine ZF (ZA cZ1 cZ23) ?_
            refine join_rule0 (sh := (fun v => ⟨[(0, .sl 1000000000 aaZ0 abZ0), (3, .i aeZ0), (4, .fn 105 [.pt 1000000001 0 0]), (18, .i (IntKind.wrap .i64 (Int.fdiv (IntKind.wrap .u64 (IntKind.wrap .i64 (acZ0 + aeZ0))) (2 ^ (min (Int.toNat 1) (IntKind.bits .u64)))))), (24, .i (IntKind.wrap .i64 ((IntKind.wrap .i64 ((IntKind.wrap .i64 (Int.fdiv (IntKind.wrap .u64 (IntKind.wrap .i64 (acZ0 + aeZ0))) (2 ^ (min (Int.toNat 1) (IntKind.bits .u64))))) + adZ0)) - oZ55)))], [(1000000000, .arr 1 (v.1.map AV.i)), (1000000001, .var (.lst .o 1 (v.2.map AV.i)))]⟩)) (s := oZ65) ?_ ?_
            · replace h := hoZ65
              obtain ⟨oZ62, hoZ62, h⟩ := bind_s h
              try refine ZF (ZA cZ1 cZ23) ?_
              refine join_rule0 (sh := (fun v => ⟨[(0, .sl 1000000000 aaZ0 abZ0), (1, .i acZ0), (3, .i aeZ0), (4, .fn 105 [.pt 1000000001 0 0]), (18, .i (IntKind.wrap .i64 (Int.fdiv (IntKind.wrap .u64 (IntKind.wrap .i64 (acZ0 + aeZ0))) (2 ^ (min (Int.toNat 1) (IntKind.bits .u64)))))), (20, .i oZ55), (24, .i (IntKind.wrap .i64 ((IntKind.wrap .i64 ((IntKind.wrap .i64 (Int.fdiv (IntKind.wrap .u64 (IntKind.wrap .i64 (acZ0 + aeZ0))) (2 ^ (min (Int.toNat 1) (IntKind.bits .u64))))) + adZ0)) - oZ55))), (199, .b v)], [(1000000000, .arr 1 (oZ60.1.map AV.i)), (1000000001, .var (.lst .o 1 (oZ60.2.map AV.i)))]⟩)) (s := oZ62) ?_ ?_
              · replace h := hoZ62
                obtain ⟨cZ61, h⟩ | ⟨cZ61, h⟩ := cond_s h
                · cases h
                  exact ZL (ZA cZ1 (ZA cZ23 cZ61)) trivial
                · cases h
                  exact ZL (ZA cZ1 (ZA cZ23 cZ61)) trivial
              · simp only [ZC, A129M1R14]
                obtain ⟨cZ63, h⟩ | ⟨cZ63, h⟩ := cond_s h
                · obtain ⟨rZ64, hrZ64, h⟩ := bind_s h
                  refine ZF (ZA cZ1 (ZA cZ23 cZ63)) ?_
                  refine ZW (ZA cZ1 (ZA cZ23 cZ63)) (ihZ0 _ _ _ _ _ _ _ hrZ64) (h2 := by first | exact nm_ok [1000000000, 1000000001] rfl (by decide +kernel) | exact nm_ok2 [1000000000, 1000000001] [] rfl (by decide +kernel) ZQ | exact ZQ) (hk := ?_)
                  refine ZG ?_
                  cases h
                  exact ZL (ZA cZ1 (ZA cZ23 cZ63)) trivial
                · cases h
                  exact ZL (ZA cZ1 (ZA cZ23 cZ63)) trivial
            · simp only [ZC, A129M1R15]
              obtain ⟨oZ67, hoZ67, h⟩ := bind_s h
              try refine ZF (ZA cZ1 cZ23) ?_
              refine join_rule0 (sh := (fun v => ⟨[(0, .sl 1000000000 aaZ0 abZ0), (3, .i aeZ0), (4, .fn 105 [.pt 1000000001 0 0]), (18, .i (IntKind.wrap .i64 (Int.fdiv (IntKind.wrap .u64 (IntKind.wrap .i64 (acZ0 + aeZ0))) (2 ^ (min (Int.toNat 1) (IntKind.bits .u64)))))), (24, .i (IntKind.wrap .i64 ((IntKind.wrap .i64 ((IntKind.wrap .i64 (Int.fdiv (IntKind.wrap .u64 (IntKind.wrap .i64 (acZ0 + aeZ0))) (2 ^ (min (Int.toNat 1) (IntKind.bits .u64))))) + adZ0)) - oZ55))), (213, .b v)], [(1000000000, .arr 1 (oZ65.1.map AV.i)), (1000000001, .var (.lst .o 1 (oZ65.2.map AV.i)))]⟩)) (s := oZ67) ?_ ?_
              · replace h := hoZ67
                obtain ⟨cZ66, h⟩ | ⟨cZ66, h⟩ := cond_s h
                · cases h
                  exact ZL (ZA cZ1 (ZA cZ23 cZ66)) trivial
                · cases h
                  exact ZL (ZA cZ1 (ZA cZ23 cZ66)) trivial
              · simp only [ZC, A129M1R16]
                obtain ⟨cZ68, h⟩ | ⟨cZ68, h⟩ := cond_s h
                · obtain ⟨rZ69, hrZ69, h⟩ := bind_s h
                  refine ZF (ZA cZ1 (ZA cZ23 cZ68)) ?_
                  refine ZW (ZA cZ1 (ZA cZ23 cZ68)) (ihZ0 _ _ _ _ _ _ _ hrZ69) (h2 := by first | exact nm_ok [1000000000, 1000000001] rfl (by decide +kernel) | exact nm_ok2 [1000000000, 1000000001] [] rfl (by decide +kernel) ZQ | exact ZQ) (hk := ?_)
                  refine ZG ?_
                  cases h
                  exact ZL (ZA cZ1 (ZA cZ23 cZ68)) V129M1.eq_1
                · cases h
                  exact ZL (ZA cZ1 (ZA cZ23 cZ68)) V129M1.eq_1
theorem w_slices_symMergeCmpFunc_intM1 : ∀ (n : Nat) (aaZ0 : Nat) (abZ0 : Nat) (acZ0 : Int) (adZ0 : Int) (aeZ0 : Int) (afZ0 : List Int) (agZ0 : List Int) {r : List Int × List Int} (_ : M_slices_symMergeCmpFunc_intM1 n aaZ0 abZ0 acZ0 adZ0 aeZ0 afZ0 agZ0 = some r), OkM Try.prog 129 [.sl 1000000000 aaZ0 abZ0, .i acZ0, .i adZ0, .i aeZ0, .fn 105 [.pt 1000000001 0 0]] [(1000000000, .arr 1 (afZ0.map AV.i)), (1000000001, .var (.lst .o 1 (agZ0.map AV.i)))] ((fun (r : List Int × List Int) => .tup []) r) ((fun (r : List Int × List Int) => [(1000000000, .arr 1 (r.1.map AV.i)), (1000000001, .var (.lst .o 1 (r.2.map AV.i)))]) r)
  | 0, aaZ0, abZ0, acZ0, adZ0, aeZ0, afZ0, agZ0, _, h => by cases h
  | n + 1, aaZ0, abZ0, acZ0, adZ0, aeZ0, afZ0, agZ0, _, h => wB_slices_symMergeCmpFunc_intM1 (M_slices_symMergeCmpFunc_intM1 n) (w_slices_symMergeCmpFunc_intM1 n) aaZ0 abZ0 acZ0 adZ0 aeZ0 afZ0 agZ0 h
def S_slices_stableCmpFunc_intM1L1 (aaZ0 : Int) (v : Nat × Int × Int × List Int × List Int) : St := ⟨[(0, .sl 1000000000 0 v.1), (1, .i aaZ0), (2, .fn 105 [.pt 1000000001 0 0]), (6, .i 20), (7, .i v.2.1), (8, .i v.2.2.1)], [(1000000000, .arr 1 (v.2.2.2.1.map AV.i)), (1000000001, .var (.lst .o 1 (v.2.2.2.2.map AV.i)))]⟩
def SX_slices_stableCmpFunc_intM1L1 (aaZ0 : Int) (v : Nat × Int × List Int × List Int) : St := ⟨[(0, .sl 1000000000 0 v.1), (1, .i aaZ0), (2, .fn 105 [.pt 1000000001 0 0]), (6, .i 20), (7, .i v.2.1)], [(1000000000, .arr 1 (v.2.2.1.map AV.i)), (1000000001, .var (.lst .o 1 (v.2.2.2.map AV.i)))]⟩
theorem w_slices_stableCmpFunc_intM1L1 (aaZ0 : Int) (sZ1 : Nat × Int × Int × List Int × List Int) (o : (Nat × Int × Int × List Int × List Int) ⊕ (Nat × Int × List Int × List Int)) (h : M_slices_stableCmpFunc_intM1L1 aaZ0 sZ1 = some o) : AWP (OkS Try.prog) A115M1L1 (qL [0, 1, 2, 6, 7, 8] [1000000000, 1000000001] (S_slices_stableCmpFunc_intM1L1 aaZ0) (qX 0 [0, 1, 2, 6, 7] [1000000000, 1000000001] (SX_slices_stableCmpFunc_intM1L1 aaZ0)) o) (S_slices_stableCmpFunc_intM1L1 aaZ0 sZ1) := by
  unfold M_slices_stableCmpFunc_intM1L1 at h
  simp only [ZC, S_slices_stableCmpFunc_intM1L1, A115M1L1]
  obtain ⟨cZ2, h⟩ | ⟨cZ2, h⟩ := cond_s h
  · obtain ⟨rZ3, hrZ3, h⟩ := bind_s h
    refine ZF cZ2 ?_
    refine ZW cZ2 (w_slices_insertionSortCmpFunc_intM2 _ _ _ _ _ _ hrZ3) (h2 := by first | exact nm_ok [1000000000, 1000000001] rfl (by decide +kernel) | exact nm_ok2 [1000000000, 1000000001] [] rfl (by decide +kernel) ZQ | exact ZQ) (hk := ?_)
    refine ZG ?_
    cases h
    exact ZL cZ2 (ZA S_slices_stableCmpFunc_intM1L1.eq_1 SX_slices_stableCmpFunc_intM1L1.eq_1)
  · cases h
    exact ZL cZ2 (ZA S_slices_stableCmpFunc_intM1L1.eq_1 SX_slices_stableCmpFunc_intM1L1.eq_1)
def S_slices_stableCmpFunc_intM1L3 (aaZ0 : Int) (oZ4 : Nat × Int × List Int × List Int) (sZ6 : Int × List Int × List Int) (v : Int × Int × List Int × List Int) : St := ⟨[(0, .sl 1000000000 0 oZ4.1), (1, .i aaZ0), (2, .fn 105 [.pt 1000000001 0 0]), (6, .i sZ6.1), (7, .i v.1), (8, .i v.2.1)], [(1000000000, .arr 1 (v.2.2.1.map AV.i)), (1000000001, .var (.lst .o 1 (v.2.2.2.map AV.i)))]⟩
def SX_slices_stableCmpFunc_intM1L3 (aaZ0 : Int) (oZ4 : Nat × Int × List Int × List Int) (sZ6 : Int × List Int × List Int) (v : Int × List Int × List Int) : St := ⟨[(0, .sl 1000000000 0 oZ4.1), (1, .i aaZ0), (2, .fn 105 [.pt 1000000001 0 0]), (6, .i sZ6.1), (7, .i v.1)], [(1000000000, .arr 1 (v.2.1.map AV.i)), (1000000001, .var (.lst .o 1 (v.2.2.map AV.i)))]⟩
theorem w_slices_stableCmpFunc_intM1L3 (aaZ0 : Int) (oZ4 : Nat × Int × List Int × List Int) (sZ6 : Int × List Int × List Int) (sZ8 : Int × Int × List Int × List Int) (o : (Int × Int × List Int × List Int) ⊕ (Int × List Int × List Int)) (h : M_slices_stableCmpFunc_intM1L3 aaZ0 oZ4 sZ6 sZ8 = some o) : AWP (OkS Try.prog) A115M1L3 (qL [0, 1, 2, 6, 7, 8] [1000000000, 1000000001] (S_slices_stableCmpFunc_intM1L3 aaZ0 oZ4 sZ6) (qX 4 [0, 1, 2, 6, 7] [1000000000, 1000000001] (SX_slices_stableCmpFunc_intM1L3 aaZ0 oZ4 sZ6)) o) (S_slices_stableCmpFunc_intM1L3 aaZ0 oZ4 sZ6 sZ8) := by
  unfold M_slices_stableCmpFunc_intM1L3 at h
  simp only [ZC, S_slices_stableCmpFunc_intM1L3, A115M1L3]
  obtain ⟨cZ9, h⟩ | ⟨cZ9, h⟩ := cond_s h
  · obtain ⟨rZ10, hrZ10, h⟩ := bind_s h
    refine ZF cZ9 ?_
    refine ZW cZ9 (w_slices_symMergeCmpFunc_intM1 N0 _ _ _ _ _ _ _ hrZ10) (h2 := by first | exact nm_ok [1000000000, 1000000001] rfl (by decide +kernel) | exact nm_ok2 [1000000000, 1000000001] [] rfl (by decide +kernel) ZQ | exact ZQ) (hk := ?_)
    refine ZG ?_
    cases h
    exact ZL cZ9 (ZA S_slices_stableCmpFunc_intM1L3.eq_1 SX_slices_stableCmpFunc_intM1L3.eq_1)
  · cases h
    exact ZL cZ9 (ZA S_slices_stableCmpFunc_intM1L3.eq_1 SX_slices_stableCmpFunc_intM1L3.eq_1)
def S_slices_stableCmpFunc_intM1L2 (aaZ0 : Int) (oZ4 : Nat × Int × List Int × List Int) (v : Int × List Int × List Int) : St := ⟨[(0, .sl 1000000000 0 oZ4.1), (1, .i aaZ0), (2, .fn 105 [.pt 1000000001 0 0]), (6, .i v.1)], [(1000000000, .arr 1 (v.2.1.map AV.i)), (1000000001, .var (.lst .o 1 (v.2.2.map AV.i)))]⟩
def SX_slices_stableCmpFunc_intM1L2 (v : List Int × List Int) : St := ⟨[], [(1000000000, .arr 1 (v.1.map AV.i)), (1000000001, .var (.lst .o 1 (v.2.map AV.i)))]⟩
theorem w_slices_stableCmpFunc_intM1L2 (aaZ0 : Int) (oZ4 : Nat × Int × List Int × List Int) (sZ6 : Int × List Int × List Int) (o : (Int × List Int × List Int) ⊕ (List Int × List Int)) (h : M_slices_stableCmpFunc_intM1L2 aaZ0 oZ4 sZ6 = some o) : AWP (OkS Try.prog) A115M1L5 (qL [0, 1, 2, 6] [1000000000, 1000000001] (S_slices_stableCmpFunc_intM1L2 aaZ0 oZ4) (qX 2 [] [1000000000, 1000000001] (SX_slices_stableCmpFunc_intM1L2)) o) (S_slices_stableCmpFunc_intM1L2 aaZ0 oZ4 sZ6) := by
  unfold M_slices_stableCmpFunc_intM1L2 at h
  simp only [ZC, S_slices_stableCmpFunc_intM1L2, A115M1L5]
  obtain ⟨cZ7, h⟩ | ⟨cZ7, h⟩ := cond_s h
  · obtain ⟨oZ11, hoZ11, h⟩ := bind_s h
    try refine ZF cZ7 ?_
    refine join_rule0 (blk_rule0 (loop_rule (w_slices_stableCmpFunc_intM1L3 aaZ0 oZ4 sZ6) hoZ11 ?_)) ?_
    · exact ZK (ZA S_slices_stableCmpFunc_intM1L3.eq_1 SX_slices_stableCmpFunc_intM1L3.eq_1)
    · simp only [ZC, SX_slices_stableCmpFunc_intM1L3, A115M1R4]
      obtain ⟨cZ12, h⟩ | ⟨cZ12, h⟩ := cond_s h
      · obtain ⟨rZ13, hrZ13, h⟩ := bind_s h
        refine ZF (ZA cZ7 cZ12) ?_
        refine ZW (ZA cZ7 cZ12) (w_slices_symMergeCmpFunc_intM1 N0 _ _ _ _ _ _ _ hrZ13) (h2 := by first | exact nm_ok [1000000000, 1000000001] rfl (by decide +kernel) | exact nm_ok2 [1000000000, 1000000001] [] rfl (by decide +kernel) ZQ | exact ZQ) (hk := ?_)
        refine ZG ?_
        cases h
        exact ZL (ZA cZ7 cZ12) (ZA S_slices_stableCmpFunc_intM1L2.eq_1 SX_slices_stableCmpFunc_intM1L2.eq_1)
      · cases h
        exact ZL (ZA cZ7 cZ12) (ZA S_slices_stableCmpFunc_intM1L2.eq_1 SX_slices_stableCmpFunc_intM1L2.eq_1)
  · cases h
    exact ZL cZ7 (ZA S_slices_stableCmpFunc_intM1L2.eq_1 SX_slices_stableCmpFunc_intM1L2.eq_1)
theorem w_slices_stableCmpFunc_intM1 (aaZ0 : Int) (abZ0 : List Int) (acZ0 : List Int) {r : List Int × List Int} (h : M_slices_stableCmpFunc_intM1 aaZ0 abZ0 acZ0 = some r) : OkM Try.prog 115 [.sl 1000000000 0 abZ0.length, .i aaZ0, .fn 105 [.pt 1000000001 0 0]] [(1000000000, .arr 1 (abZ0.map AV.i)), (1000000001, .var (.lst .o 1 (acZ0.map AV.i)))] ((fun (r : List Int × List Int) => .tup []) r) ((fun (r : List Int × List Int) => [(1000000000, .arr 1 (r.1.map AV.i)), (1000000001, .var (.lst .o 1 (r.2.map AV.i)))]) r) := by
  refine okM_of_body (lr := [1000000000, 1000000001]) hmix m115M1 rfl rfl ?_
  unfold M_slices_stableCmpFunc_intM1 at h
  simp only [ZC, A115M1, V115M1]
  obtain ⟨oZ4, hoZ4, h⟩ := bind_s h
  try refine ZF trivial ?_
  refine join_rule0 (blk_rule0 (loop_rule (w_slices_stableCmpFunc_intM1L1 aaZ0) hoZ4 ?_)) ?_
  · exact ZK (ZA S_slices_stableCmpFunc_intM1L1.eq_1 SX_slices_stableCmpFunc_intM1L1.eq_1)
  · simp only [ZC, SX_slices_stableCmpFunc_intM1L1, A115M1R2]
    obtain ⟨rZ5, hrZ5, h⟩ := bind_s h
    refine ZF trivial ?_
    refine ZW trivial (w_slices_insertionSortCmpFunc_intM2 _ _ _ _ _ _ hrZ5) (h2 := by first | exact nm_ok [1000000000, 1000000001] rfl (by decide +kernel) | exact nm_ok2 [1000000000, 1000000001] [] rfl (by decide +kernel) ZQ | exact ZQ) (hk := ?_)
    refine ZG ?_
    obtain ⟨oZ14, hoZ14, h⟩ := bind_s h
    try refine ZF trivial ?_
    first | refine tail_rule0 (blk_rule0 (loop_rule (w_slices_stableCmpFunc_intM1L2 aaZ0 oZ4) hoZ14 ?_)) (fun τ qZ15 => ?_) | refine tail_blk0 (loop_rule (w_slices_stableCmpFunc_intM1L2 aaZ0 oZ4) hoZ14 ?_) (fun τ qZ15 => ?_)
    · exact ZK (ZA S_slices_stableCmpFunc_intM1L2.eq_1 SX_slices_stableCmpFunc_intM1L2.eq_1)
    · cases h
      refine finM_shp qZ15 (by decide) ?_ rfl
      exact ZK (ZA V115M1.eq_1 SX_slices_stableCmpFunc_intM1L2.eq_1)
theorem w_slices_SortStableFunc_Lint_intM1 (aaZ0 : List Int) (abZ0 : List Int) {r : List Int × List Int} (h : M_slices_SortStableFunc_Lint_intM1 aaZ0 abZ0 = some r) : OkM Try.prog 104 [.sl 1000000000 0 aaZ0.length, .fn 105 [.pt 1000000001 0 0]] [(1000000000, .arr 1 (aaZ0.map AV.i)), (1000000001, .var (.lst .o 1 (abZ0.map AV.i)))] ((fun (r : List Int × List Int) => .tup []) r) ((fun (r : List Int × List Int) => [(1000000000, .arr 1 (r.1.map AV.i)), (1000000001, .var (.lst .o 1 (r.2.map AV.i)))]) r) := by
  refine okM_of_body (lr := [1000000000, 1000000001]) hmix m104M1 rfl rfl ?_
  unfold M_slices_SortStableFunc_Lint_intM1 at h
  simp only [ZC, A104M1, V104M1]
  obtain ⟨rZ1, hrZ1, h⟩ := bind_s h
  refine ZF trivial ?_
  refine ZW trivial (w_slices_stableCmpFunc_intM1 _ _ _ hrZ1) (h2 := by first | exact nm_ok [1000000000, 1000000001] rfl (by decide +kernel) | exact nm_ok2 [1000000000, 1000000001] [] rfl (by decide +kernel) ZQ | exact ZQ) (hk := ?_)
  refine ZG ?_
  cases h
  exact ZL trivial V104M1.eq_1
def S_slices_IndexFunc_Lint_intL1 (sZ0 : List Int) (F_fZ0 : Nat) (C_fZ0 : List AV) (v : Int) : St := ⟨[(0, .lst .o 1 (sZ0.map AV.i)), (1, .fn F_fZ0 C_fZ0), (7, .i (sZ0.length : Int)), (8, .i v)], []⟩
def SX_slices_IndexFunc_Lint_intL1 (v : Unit) : St := ⟨[], []⟩
theorem w_slices_IndexFunc_Lint_intL1 (sZ0 : List Int) (fZ0 : Int → Option Bool) (F_fZ0 : Nat) (C_fZ0 : List AV) (hC_fZ0 : Fixed C_fZ0) (hf_fZ0 : ∀ (x0 : Int) (r : Bool), fZ0 x0 = some r → Ok Try.prog F_fZ0 ((.i x0) :: C_fZ0) (.b r)) (sZ1 : Int) (o : Int ⊕ (Unit ⊕ Int)) (h : M_slices_IndexFunc_Lint_intL1 sZ0 fZ0 sZ1 = some o) : AWP (OkS Try.prog) A98L1 (qL [0, 1, 7, 8] [] (S_slices_IndexFunc_Lint_intL1 sZ0 F_fZ0 C_fZ0) (qS (qX 0 [] [] (SX_slices_IndexFunc_Lint_intL1)) (qR V98 (fun r => .i r))) o) (S_slices_IndexFunc_Lint_intL1 sZ0 F_fZ0 C_fZ0 sZ1) := by
  unfold M_slices_IndexFunc_Lint_intL1 at h
  simp only [ZC, S_slices_IndexFunc_Lint_intL1, A98L1]
  obtain ⟨cZ2, h⟩ | ⟨cZ2, h⟩ := cond_s h
  · obtain ⟨yZ3, hyZ3, h⟩ := bind_s h
    obtain ⟨hyZ3a, hyZ3b⟩ := geti_s hyZ3
    obtain ⟨rZ4, hrZ4, h⟩ := bind_s h
    refine ZF (ZA cZ2 (ZA hyZ3a hyZ3b)) ?_
    refine ZS (ZA cZ2 (ZA hyZ3a (ZA hyZ3b hC_fZ0.1))) (hf_fZ0 _ _ hrZ4) ?_
    refine ZG ?_
    obtain ⟨cZ5, h⟩ | ⟨cZ5, h⟩ := cond_s h
    · cases h
      exact ZL (ZA cZ2 (ZA hyZ3a (ZA hyZ3b cZ5))) (ZA V98.eq_1 (ZA hC_fZ0.2 ((fixed_ren hC_fZ0))))
    · cases h
      exact ZL (ZA cZ2 (ZA hyZ3a (ZA hyZ3b cZ5))) (ZA S_slices_IndexFunc_Lint_intL1.eq_1 (ZA SX_slices_IndexFunc_Lint_intL1.eq_1 (ZA hC_fZ0.2 ((fixed_ren hC_fZ0)))))
  · cases h
    exact ZL cZ2 (ZA S_slices_IndexFunc_Lint_intL1.eq_1 (ZA SX_slices_IndexFunc_Lint_intL1.eq_1 (ZA hC_fZ0.2 ((fixed_ren hC_fZ0)))))
theorem w_slices_IndexFunc_Lint_int (sZ0 : List Int) (fZ0 : Int → Option Bool) {r : Int} (h : M_slices_IndexFunc_Lint_int sZ0 fZ0 = some r) (F_fZ0 : Nat) (C_fZ0 : List AV) (hC_fZ0 : Fixed C_fZ0) (hf_fZ0 : ∀ (x0 : Int) (r : Bool), fZ0 x0 = some r → Ok Try.prog F_fZ0 ((.i x0) :: C_fZ0) (.b r)) : Ok Try.prog 98 [.lst .o 1 (sZ0.map AV.i), .fn F_fZ0 C_fZ0] ((fun r => .i r) r) := by
  refine ok_of_body hmix m98 rfl ?_
  unfold M_slices_IndexFunc_Lint_int at h
  simp only [ZC, A98, V98, body_eq]
  obtain ⟨oZ6, hoZ6, h⟩ := bind_s h
  try refine ZF trivial ?_
  refine join_rule (o := oZ6) (blk_rule sideR (loop_rule (w_slices_IndexFunc_Lint_intL1 sZ0 fZ0 F_fZ0 C_fZ0 hC_fZ0 hf_fZ0) hoZ6 ?_)) (fun vZ7 hv => ?_) (fun xZ8 hv e τ hne hq => ?_)
  · exact ZK (ZA S_slices_IndexFunc_Lint_intL1.eq_1 (ZA SX_slices_IndexFunc_Lint_intL1.eq_1 (ZA hC_fZ0.2 ((fixed_ren hC_fZ0)))))
  · subst hv
    simp only [] at h
    simp only [ZC, SX_slices_IndexFunc_Lint_intL1, A98R2]
    cases h
    exact ZL trivial (ZA V98.eq_1 (ZA hC_fZ0.2 ((fixed_ren hC_fZ0))))
  · subst hv
    simp only [] at h
    obtain ⟨rfl, qZ9⟩ := hq
    cases h
    exact qZ9
theorem w_impl_packed_c1 (roomZ0 : Int) (p1Z0 : List Int) (p2Z0 : Int) {r : Bool} (h : M_impl_packed_c1 roomZ0 p1Z0 p2Z0 = some r) : Ok Try.prog 99 [.i roomZ0, .bp (.lst .o 1 (p1Z0.map AV.i)) 0, .bp (.i p2Z0) 0] ((fun r => .b r) r) := by
  refine ok_of_body hmix m99 rfl ?_
  unfold M_impl_packed_c1 at h
  simp only [ZC, A99, V99, body_eq]
  obtain ⟨yZ1, hyZ1, h⟩ := bind_s h
  obtain ⟨hyZ1a, hyZ1b⟩ := geti_s hyZ1
  cases h
  exact ZL (ZA hyZ1a hyZ1b) V99.eq_1
def S_impl_packedL1 (ratesZ0 : List Int) (capacityZ0 : Int) (orderZ0 : List Int) (v : Int × List Int × List Int) : St := ⟨[(1, .i capacityZ0), (3, .pt 3 0 0), (7, .sl 7 0 v.2.1.length), (8, .sl 8 0 v.2.2.length), (16, .lst .o 1 (orderZ0.map AV.i)), (17, .i (orderZ0.length : Int)), (18, .i v.1)], [(3, .var (.lst .o 1 (ratesZ0.map AV.i))), (7, .arr 1 (v.2.1.map AV.i)), (8, .arr 1 (v.2.2.map AV.i))]⟩
def SX_impl_packedL1 (v : List Int) : St := ⟨[(7, .sl 7 0 v.length)], [(7, .arr 1 (v.map AV.i))]⟩
theorem w_impl_packedL1 (ratesZ0 : List Int) (capacityZ0 : Int) (orderZ0 : List Int) (sZ4 : Int × List Int × List Int) (o : (Int × List Int × List Int) ⊕ (List Int)) (h : M_impl_packedL1 ratesZ0 capacityZ0 orderZ0 sZ4 = some o) : AWP (OkS Try.prog) A64L2 (qL [1, 3, 7, 8, 16, 17, 18] [3, 7, 8] (S_impl_packedL1 ratesZ0 capacityZ0 orderZ0) (qX 0 [7] [7] (SX_impl_packedL1)) o) (S_impl_packedL1 ratesZ0 capacityZ0 orderZ0 sZ4) := by
  unfold M_impl_packedL1 at h
  simp only [ZC, S_impl_packedL1, A64L2]
  obtain ⟨cZ5, h⟩ | ⟨cZ5, h⟩ := cond_s h
  · obtain ⟨yZ6, hyZ6, h⟩ := bind_s h
    obtain ⟨hyZ6a, hyZ6b⟩ := geti_s hyZ6
    obtain ⟨rZ7, hrZ7, h⟩ := bind_s h
    refine ZF (ZA cZ5 (ZA hyZ6a hyZ6b)) ?_
    refine ZS (ZA cZ5 (ZA hyZ6a hyZ6b)) (w_slices_IndexFunc_Lint_int _ _ hrZ7 99 [.bp (.lst .o 1 (ratesZ0.map AV.i)) 0, .bp (.i yZ6) 0] ⟨fun ρ k => by simp only [VS1, VS2, VS3, VS4, VS5, VS6, VT1, VT2, finM_ret, finM_nrm, decide_true, decide_false, List.nodup_nil, List.nodup_cons, oks_p, oks_m, oks_h, ne_eq, not_false_eq_true, Int.reduceEq, Int.reduceNe, true_and, Nat.reduceSub, Nat.reduceMul, ↓reduceIte, reduceCtorEq, Nat.reduceEqDiff, Nat.reduceAdd, Nat.reduceLeDiff, Int.reduceLE], by simp [mentsL, AV.ments]⟩ (fun _ _ h => w_impl_packed_c1 _ _ _ h)) ?_
    refine ZG ?_
    obtain ⟨oZ16, hoZ16, h⟩ := bind_s h
    try refine ZF (ZA cZ5 (ZA hyZ6a hyZ6b)) ?_
    refine join_rule0 (sh := (fun v => ⟨[(1, .i capacityZ0), (3, .pt 3 0 0), (7, .sl 7 0 sZ4.2.1.length), (8, .sl 8 0 v.2.length), (10, .pt 10 0 0), (11, .i v.1), (16, .lst .o 1 (orderZ0.map AV.i)), (17, .i (orderZ0.length : Int)), (18, .i sZ4.1)], [(3, .var (.lst .o 1 (ratesZ0.map AV.i))), (7, .arr 1 (sZ4.2.1.map AV.i)), (8, .arr 1 (v.2.map AV.i)), (10, .var (.i yZ6))]⟩)) (s := oZ16) ?_ ?_
    · replace h := hoZ16
      obtain ⟨cZ8, h⟩ | ⟨cZ8, h⟩ := cond_s h
      · obtain ⟨lZ9, hlZ9, h⟩ := bnd_s h
        have eZ10 : Row.arr 1 [(.i capacityZ0 : AV)] = Row.arr 1 (lZ9.map AV.i) := by rw [← hlZ9]; rfl
        have eZ11 : lZ9.length = 1 := by rw [← hlZ9]; rfl
        obtain ⟨uZ12, huZ12, h⟩ := bind_s h
        have huZ12g := grd_s huZ12
        obtain ⟨lZ13, hlZ13, h⟩ := bnd_s h
        have eZ14 : sZ4.2.2.map AV.i ++ lZ9.map AV.i = lZ13.map AV.i := by rw [← hlZ13, List.map_append]
        have eZ15 : sZ4.2.2.length + 1 = lZ13.length := by simp [← hlZ9, ← hlZ13] <;> omega
        rw [eZ15] at huZ12g
        cases h
        exact ZL (ZA cZ5 (ZA hyZ6a (ZA hyZ6b (ZA cZ8 (ZA eZ10 (ZA eZ11 (ZA huZ12g (ZA eZ14 eZ15)))))))) (ZA hlZ9.symm hlZ13.symm)
      · cases h
        exact ZL (ZA cZ5 (ZA hyZ6a (ZA hyZ6b cZ8))) trivial
    · simp only [ZC, A64R1]
      obtain ⟨kZ17, hkZ17, h⟩ := bind_s h
      obtain ⟨hkZ17a, hkZ17b⟩ := grd_s hkZ17
      obtain ⟨yZ18, hyZ18, h⟩ := bind_s h
      obtain ⟨yZ19, hyZ19, h⟩ := bind_s h
      obtain ⟨hyZ19a, hyZ19b⟩ := geti_s hyZ19
      obtain ⟨lZ20, hlZ20, h⟩ := bnd_s h
      have eZ21 : (oZ16.2.map AV.i).set (Int.toNat oZ16.1) (.i (IntKind.wrap .i64 (yZ18 - yZ19))) = lZ20.map AV.i := by rw [← hlZ20, List.map_set]
      obtain ⟨kZ22, hkZ22, h⟩ := bind_s h
      obtain ⟨hkZ22a, hkZ22b⟩ := grd_s hkZ22
      obtain ⟨yZ23, hyZ23, h⟩ := bind_s h
      obtain ⟨lZ24, hlZ24, h⟩ := bnd_s h
      have eZ25 : (sZ4.2.1.map AV.i).set (Int.toNat yZ6) (.i oZ16.1) = lZ24.map AV.i := by rw [← hlZ24, List.map_set]
      cases h
      exact ZL (ZA cZ5 (ZA hyZ6a (ZA hyZ6b (ZA hkZ17a (ZA hkZ17b (ZA hyZ18 (ZA hyZ19a (ZA hyZ19b (ZA eZ21 (ZA hkZ22a (ZA hkZ22b (ZA hyZ23 eZ25)))))))))))) (ZA S_impl_packedL1.eq_1 (ZA SX_impl_packedL1.eq_1 (ZA hlZ20.symm hlZ24.symm)))
  · cases h
    exact ZL cZ5 (ZA S_impl_packedL1.eq_1 SX_impl_packedL1.eq_1)
theorem w_impl_packed (ratesZ0 : List Int) (capacityZ0 : Int) (orderZ0 : List Int) {r : List Int} (h : M_impl_packed ratesZ0 capacityZ0 orderZ0 = some r) : Ok Try.prog 64 [.lst .o 1 (ratesZ0.map AV.i), .i capacityZ0, .lst .o 1 (orderZ0.map AV.i)] ((fun r => .lst .u 1 (r.map AV.i)) r) := by
  refine ok_of_body hmix m64 rfl ?_
  unfold M_impl_packed at h
  simp only [ZC, A64, V64, body_eq]
  obtain ⟨uZ1, huZ1, h⟩ := bind_s h
  obtain ⟨huZ11, huZ12, huZ13, huZ14⟩ := grd_s huZ1
  obtain ⟨lZ2, hlZ2, h⟩ := bnd_s h
  have eZ3 : List.replicate (Int.toNat (ratesZ0.length : Int)) (.i 0 : AV) = lZ2.map AV.i := by rw [← hlZ2, List.map_replicate]
  obtain ⟨oZ26, hoZ26, h⟩ := bind_s h
  try refine ZF (ZA huZ11 (ZA huZ12 (ZA huZ13 (ZA huZ14 eZ3)))) ?_
  refine join_rule0 (blk_rule0 (loop_rule (w_impl_packedL1 ratesZ0 capacityZ0 orderZ0) hoZ26 ?_)) ?_
  · exact ZK (ZA S_impl_packedL1.eq_1 (ZA SX_impl_packedL1.eq_1 (ZA hlZ2.symm @Zr)))
  · simp only [ZC, SX_impl_packedL1, A64R3]
    cases h
    exact ZL (ZA huZ11 (ZA huZ12 (ZA huZ13 (ZA huZ14 eZ3)))) V64.eq_1
theorem w_impl_descending (ratesZ0 : List Int) (capacityZ0 : Int) {r : List Int} (h : M_impl_descending ratesZ0 capacityZ0 = some r) : Ok Try.prog 77 [.lst .o 1 (ratesZ0.map AV.i), .i capacityZ0] ((fun r => .lst .u 1 (r.map AV.i)) r) := by
  refine ok_of_body hmix m77 rfl ?_
  unfold M_impl_descending at h
  simp only [ZC, A77, V77, body_eq]
  obtain ⟨rZ1, hrZ1, h⟩ := bind_s h
  refine ZF trivial ?_
  refine ZU trivial (w_impl_numbered _ hrZ1) ?_
  refine ZG ?_
  obtain ⟨rZ2, hrZ2, h⟩ := bind_s h
  refine ZF trivial ?_
  refine ZW trivial (w_slices_SortStableFunc_Lint_intM1 _ _ hrZ2) (h2 := by first | exact nm_ok [1000000000, 1000000001] rfl (by decide +kernel) | exact nm_ok2 [1000000000, 1000000001] [] rfl (by decide +kernel) ZQ | exact ZQ) (hk := ?_)
  refine ZG ?_
  obtain ⟨lZ3, hlZ3, h⟩ := bnd_s h
  have eZ4 : sub (rZ2.1.map AV.i) 0 rZ1.length = lZ3.map AV.i := by rw [sub_mapT, hlZ3]
  obtain ⟨rZ5, hrZ5, h⟩ := bind_s h
  refine ZF eZ4 ?_
  refine ZU eZ4 (w_impl_packed _ _ _ hrZ5) ?_
  refine ZG ?_
  cases h
  exact ZL eZ4 V77.eq_1
def S_slices_Max_Lint_intL1 (xZ0 : List Int) (v : Int × Int) : St := ⟨[(0, .lst .o 1 (xZ0.map AV.i)), (3, .i v.1), (4, .i v.2)], []⟩
def SX_slices_Max_Lint_intL1 (v : Int) : St := ⟨[(3, .i v)], []⟩
theorem w_slices_Max_Lint_intL1 (xZ0 : List Int) (sZ3 : Int × Int) (o : (Int × Int) ⊕ Int) (h : M_slices_Max_Lint_intL1 xZ0 sZ3 = some o) : AWP (OkS Try.prog) A86L1 (qL [0, 3, 4] [] (S_slices_Max_Lint_intL1 xZ0) (qX 0 [3] [] (SX_slices_Max_Lint_intL1)) o) (S_slices_Max_Lint_intL1 xZ0 sZ3) := by
  unfold M_slices_Max_Lint_intL1 at h
  simp only [ZC, S_slices_Max_Lint_intL1, A86L1]
  obtain ⟨cZ4, h⟩ | ⟨cZ4, h⟩ := cond_s h
  · obtain ⟨yZ5, hyZ5, h⟩ := bind_s h
    obtain ⟨hyZ5a, hyZ5b⟩ := geti_s hyZ5
    cases h
    exact ZL (ZA cZ4 (ZA hyZ5a hyZ5b)) (ZA S_slices_Max_Lint_intL1.eq_1 SX_slices_Max_Lint_intL1.eq_1)
  · cases h
    exact ZL cZ4 (ZA S_slices_Max_Lint_intL1.eq_1 SX_slices_Max_Lint_intL1.eq_1)
theorem w_slices_Max_Lint_int (xZ0 : List Int) {r : Int} (h : M_slices_Max_Lint_int xZ0 = some r) : Ok Try.prog 86 [.lst .o 1 (xZ0.map AV.i)] ((fun r => .i r) r) := by
  refine ok_of_body hmix m86 rfl ?_
  unfold M_slices_Max_Lint_int at h
  simp only [ZC, A86, V86, body_eq]
  obtain ⟨cZ1, h⟩ | ⟨cZ1, h⟩ := cond_s h
  · cases h
  · obtain ⟨yZ2, hyZ2, h⟩ := bind_s h
    obtain ⟨hyZ2a, hyZ2b⟩ := geti_s hyZ2
    obtain ⟨oZ6, hoZ6, h⟩ := bind_s h
    try refine ZF (ZA cZ1 (ZA hyZ2a hyZ2b)) ?_
    refine join_rule0 (blk_rule0 (loop_rule (w_slices_Max_Lint_intL1 xZ0) hoZ6 ?_)) ?_
    · exact ZK (ZA S_slices_Max_Lint_intL1.eq_1 SX_slices_Max_Lint_intL1.eq_1)
    · simp only [ZC, SX_slices_Max_Lint_intL1, A86R2]
      cases h
      exact ZL (ZA cZ1 (ZA hyZ2a hyZ2b)) V86.eq_1
def S_impl_GroomDirectL3 (listZ0 : List TTributary) (nodesZ0 : Int) (capacityZ0 : Int) (sZ8 : Int × List (List Int)) (sZ10 : Int × List (List Int)) (v : Int × List Int) : St := ⟨[(0, .lst .o 3 (listZ0.map (e_TTributary .o))), (1, .i nodesZ0), (5, .pt 5 0 0), (8, .sl 8 0 sZ10.2.length), (9, .i sZ8.1), (10, .i sZ10.1), (11, .sl 11 0 v.2.length), (29, .i nodesZ0), (30, .i sZ8.1), (41, .lst .o 3 (listZ0.map (e_TTributary .o))), (42, .i (listZ0.length : Int)), (43, .i v.1)], [(5, .var (.i capacityZ0)), (8, .arr 1 (sZ10.2.map (e_Li .u))), (11, .arr 1 (v.2.map AV.i))]⟩
def SX_impl_GroomDirectL3 (listZ0 : List TTributary) (nodesZ0 : Int) (capacityZ0 : Int) (sZ8 : Int × List (List Int)) (sZ10 : Int × List (List Int)) (v : List Int) : St := ⟨[(0, .lst .o 3 (listZ0.map (e_TTributary .o))), (1, .i nodesZ0), (5, .pt 5 0 0), (8, .sl 8 0 sZ10.2.length), (9, .i sZ8.1), (10, .i sZ10.1), (11, .sl 11 0 v.length), (29, .i nodesZ0), (30, .i sZ8.1)], [(5, .var (.i capacityZ0)), (8, .arr 1 (sZ10.2.map (e_Li .u))), (11, .arr 1 (v.map AV.i))]⟩
theorem w_impl_GroomDirectL3 (listZ0 : List TTributary) (nodesZ0 : Int) (capacityZ0 : Int) (sZ8 : Int × List (List Int)) (sZ10 : Int × List (List Int)) (sZ12 : Int × List Int) (o : (Int × List Int) ⊕ (List Int)) (h : M_impl_GroomDirectL3 listZ0 sZ8 sZ10 sZ12 = some o) : AWP (OkS Try.prog) A50L3 (qL [0, 1, 5, 8, 9, 10, 11, 29, 30, 41, 42, 43] [5, 8, 11] (S_impl_GroomDirectL3 listZ0 nodesZ0 capacityZ0 sZ8 sZ10) (qX 4 [0, 1, 5, 8, 9, 10, 11, 29, 30] [5, 8, 11] (SX_impl_GroomDirectL3 listZ0 nodesZ0 capacityZ0 sZ8 sZ10)) o) (S_impl_GroomDirectL3 listZ0 nodesZ0 capacityZ0 sZ8 sZ10 sZ12) := by
  unfold M_impl_GroomDirectL3 at h
  simp only [ZC, S_impl_GroomDirectL3, A50L3]
  obtain ⟨cZ13, h⟩ | ⟨cZ13, h⟩ := cond_s h
  · obtain ⟨yZ14, hyZ14, h⟩ := bind_s h
    obtain ⟨hyZ14a, hyZ14b⟩ := geti_s hyZ14
    obtain ⟨oZ16, hoZ16, h⟩ := bind_s h
    try refine ZF (ZA cZ13 (ZA hyZ14a hyZ14b)) ?_
    refine join_rule0 (sh := (fun v => ⟨[(0, .lst .o 3 (listZ0.map (e_TTributary .o))), (1, .i nodesZ0), (5, .pt 5 0 0), (8, .sl 8 0 sZ10.2.length), (9, .i sZ8.1), (10, .i sZ10.1), (11, .sl 11 0 sZ12.2.length), (13, .pt 13 0 0), (29, .i nodesZ0), (30, .i sZ8.1), (41, .lst .o 3 (listZ0.map (e_TTributary .o))), (42, .i (listZ0.length : Int)), (43, .i sZ12.1), (62, .b v)], [(5, .var (.i capacityZ0)), (8, .arr 1 (sZ10.2.map (e_Li .u))), (11, .arr 1 (sZ12.2.map AV.i)), (13, .var (.agg [.i yZ14.From, .i yZ14.To, .i yZ14.Rate]))]⟩)) (s := oZ16) ?_ ?_
    · replace h := hoZ16
      obtain ⟨cZ15, h⟩ | ⟨cZ15, h⟩ := cond_s h
      · cases h
        exact ZL (ZA cZ13 (ZA hyZ14a (ZA hyZ14b cZ15))) trivial
      · cases h
        exact ZL (ZA cZ13 (ZA hyZ14a (ZA hyZ14b cZ15))) trivial
    · simp only [ZC, A50R2]
      obtain ⟨cZ17, h⟩ | ⟨cZ17, h⟩ := cond_s h
      · obtain ⟨lZ18, hlZ18, h⟩ := bnd_s h
        have eZ19 : Row.arr 1 [(.i yZ14.Rate : AV)] = Row.arr 1 (lZ18.map AV.i) := by rw [← hlZ18]; rfl
        have eZ20 : lZ18.length = 1 := by rw [← hlZ18]; rfl
        obtain ⟨uZ21, huZ21, h⟩ := bind_s h
        have huZ21g := grd_s huZ21
        obtain ⟨lZ22, hlZ22, h⟩ := bnd_s h
        have eZ23 : sZ12.2.map AV.i ++ lZ18.map AV.i = lZ22.map AV.i := by rw [← hlZ22, List.map_append]
        have eZ24 : sZ12.2.length + 1 = lZ22.length := by simp [← hlZ18, ← hlZ22] <;> omega
        rw [eZ24] at huZ21g
        cases h
        exact ZL (ZA cZ13 (ZA hyZ14a (ZA hyZ14b (ZA cZ17 (ZA eZ19 (ZA eZ20 (ZA huZ21g (ZA eZ23 eZ24)))))))) (ZA S_impl_GroomDirectL3.eq_1 (ZA SX_impl_GroomDirectL3.eq_1 (ZA hlZ18.symm hlZ22.symm)))
      · cases h
        exact ZL (ZA cZ13 (ZA hyZ14a (ZA hyZ14b cZ17))) (ZA S_impl_GroomDirectL3.eq_1 SX_impl_GroomDirectL3.eq_1)
  · cases h
    exact ZL cZ13 (ZA S_impl_GroomDirectL3.eq_1 SX_impl_GroomDirectL3.eq_1)
def S_impl_GroomDirectL2 (listZ0 : List TTributary) (nodesZ0 : Int) (capacityZ0 : Int) (sZ8 : Int × List (List Int)) (v : Int × List (List Int)) : St := ⟨[(0, .lst .o 3 (listZ0.map (e_TTributary .o))), (1, .i nodesZ0), (5, .pt 5 0 0), (8, .sl 8 0 v.2.length), (9, .i sZ8.1), (10, .i v.1), (29, .i nodesZ0), (30, .i sZ8.1)], [(5, .var (.i capacityZ0)), (8, .arr 1 (v.2.map (e_Li .u)))]⟩
def SX_impl_GroomDirectL2 (listZ0 : List TTributary) (nodesZ0 : Int) (capacityZ0 : Int) (sZ8 : Int × List (List Int)) (v : List (List Int)) : St := ⟨[(0, .lst .o 3 (listZ0.map (e_TTributary .o))), (1, .i nodesZ0), (5, .pt 5 0 0), (8, .sl 8 0 v.length), (29, .i nodesZ0), (30, .i sZ8.1)], [(5, .var (.i capacityZ0)), (8, .arr 1 (v.map (e_Li .u)))]⟩
theorem w_impl_GroomDirectL2 (listZ0 : List TTributary) (nodesZ0 : Int) (capacityZ0 : Int) (sZ8 : Int × List (List Int)) (sZ10 : Int × List (List Int)) (o : (Int × List (List Int)) ⊕ (List (List Int))) (h : M_impl_GroomDirectL2 listZ0 nodesZ0 capacityZ0 sZ8 sZ10 = some o) : AWP (OkS Try.prog) A50L5 (qL [0, 1, 5, 8, 9, 10, 29, 30] [5, 8] (S_impl_GroomDirectL2 listZ0 nodesZ0 capacityZ0 sZ8) (qX 2 [0, 1, 5, 8, 29, 30] [5, 8] (SX_impl_GroomDirectL2 listZ0 nodesZ0 capacityZ0 sZ8)) o) (S_impl_GroomDirectL2 listZ0 nodesZ0 capacityZ0 sZ8 sZ10) := by
  unfold M_impl_GroomDirectL2 at h
  simp only [ZC, S_impl_GroomDirectL2, A50L5]
  obtain ⟨cZ11, h⟩ | ⟨cZ11, h⟩ := cond_s h
  · obtain ⟨oZ25, hoZ25, h⟩ := bind_s h
    try refine ZF cZ11 ?_
    refine join_rule0 (blk_rule0 (loop_rule (w_impl_GroomDirectL3 listZ0 nodesZ0 capacityZ0 sZ8 sZ10) hoZ25 ?_)) ?_
    · exact ZK (ZA S_impl_GroomDirectL3.eq_1 SX_impl_GroomDirectL3.eq_1)
    · simp only [ZC, SX_impl_GroomDirectL3, A50R4]
      obtain ⟨cZ26, h⟩ | ⟨cZ26, h⟩ := cond_s h
      · obtain ⟨rZ27, hrZ27, h⟩ := bind_s h
        refine ZF (ZA cZ11 cZ26) ?_
        refine ZU (ZA cZ11 cZ26) (w_impl_descending _ _ hrZ27) ?_
        refine ZG ?_
        obtain ⟨rZ28, hrZ28, h⟩ := bind_s h
        refine ZF (ZA cZ11 cZ26) ?_
        refine ZS (ZA cZ11 cZ26) (w_slices_Max_Lint_int _ hrZ28) ?_
        refine ZG ?_
        obtain ⟨lZ29, hlZ29, h⟩ := bnd_s h
        have eZ30 : Row.arr 1 [(.i sZ8.1 : AV), (.i sZ10.1 : AV), (.i (IntKind.wrap .i64 (rZ28 + 1)) : AV)] = Row.arr 1 (lZ29.map AV.i) := by rw [← hlZ29]; rfl
        have eZ31 : lZ29.length = 3 := by rw [← hlZ29]; rfl
        have nZ32 : sub (lZ29.map AV.i) 0 3 = lZ29.map AV.i := sub_n _ (by simp [← hlZ29])
        obtain ⟨lZ33, hlZ33, h⟩ := bnd_s h
        have eZ34 : Row.arr 1 [(.lst .u 1 (lZ29.map AV.i) : AV)] = Row.arr 1 (lZ33.map (e_Li .u)) := by rw [← hlZ33]; rfl
        have eZ35 : lZ33.length = 1 := by rw [← hlZ33]; rfl
        obtain ⟨uZ36, huZ36, h⟩ := bind_s h
        have huZ36g := grd_s huZ36
        obtain ⟨lZ37, hlZ37, h⟩ := bnd_s h
        have eZ38 : sZ10.2.map (e_Li .u) ++ lZ33.map (e_Li .u) = lZ37.map (e_Li .u) := by rw [← hlZ37, List.map_append]
        have eZ39 : sZ10.2.length + 1 = lZ37.length := by simp [← hlZ29, ← hlZ33, ← hlZ37] <;> omega
        rw [eZ39] at huZ36g
        cases h
        exact ZL (ZA cZ11 (ZA cZ26 (ZA eZ30 (ZA eZ31 (ZA nZ32 (ZA eZ34 (ZA eZ35 (ZA huZ36g (ZA eZ38 eZ39))))))))) (ZA S_impl_GroomDirectL2.eq_1 (ZA SX_impl_GroomDirectL2.eq_1 (ZA hlZ29.symm (ZA hlZ33.symm hlZ37.symm))))
      · cases h
        exact ZL (ZA cZ11 cZ26) (ZA S_impl_GroomDirectL2.eq_1 SX_impl_GroomDirectL2.eq_1)
  · cases h
    exact ZL cZ11 (ZA S_impl_GroomDirectL2.eq_1 SX_impl_GroomDirectL2.eq_1)
def S_impl_GroomDirectL1 (listZ0 : List TTributary) (nodesZ0 : Int) (capacityZ0 : Int) (v : Int × List (List Int)) : St := ⟨[(0, .lst .o 3 (listZ0.map (e_TTributary .o))), (1, .i nodesZ0), (5, .pt 5 0 0), (8, .sl 8 0 v.2.length), (29, .i nodesZ0), (30, .i v.1)], [(5, .var (.i capacityZ0)), (8, .arr 1 (v.2.map (e_Li .u)))]⟩
def SX_impl_GroomDirectL1 (v : List (List Int)) : St := ⟨[(8, .sl 8 0 v.length)], [(8, .arr 1 (v.map (e_Li .u)))]⟩
theorem w_impl_GroomDirectL1 (listZ0 : List TTributary) (nodesZ0 : Int) (capacityZ0 : Int) (sZ8 : Int × List (List Int)) (o : (Int × List (List Int)) ⊕ (List (List Int))) (h : M_impl_GroomDirectL1 listZ0 nodesZ0 capacityZ0 sZ8 = some o) : AWP (OkS Try.prog) A50L7 (qL [0, 1, 5, 8, 29, 30] [5, 8] (S_impl_GroomDirectL1 listZ0 nodesZ0 capacityZ0) (qX 0 [8] [8] (SX_impl_GroomDirectL1)) o) (S_impl_GroomDirectL1 listZ0 nodesZ0 capacityZ0 sZ8) := by
  unfold M_impl_GroomDirectL1 at h
  simp only [ZC, S_impl_GroomDirectL1, A50L7]
  obtain ⟨cZ9, h⟩ | ⟨cZ9, h⟩ := cond_s h
  · obtain ⟨oZ42, hoZ42, h⟩ := bind_s h
    try refine ZF cZ9 ?_
    refine join_rule0 (sh := (fun v => ⟨[(0, .lst .o 3 (listZ0.map (e_TTributary .o))), (1, .i nodesZ0), (5, .pt 5 0 0), (8, .sl 8 0 v.length), (29, .i nodesZ0), (30, .i sZ8.1)], [(5, .var (.i capacityZ0)), (8, .arr 1 (v.map (e_Li .u)))]⟩)) (s := oZ42) ?_ ?_
    · replace h := hoZ42
      obtain ⟨oZ40, hoZ40, h⟩ := bind_s h
      try refine ZF cZ9 ?_
      first | refine tail_rule0 (blk_rule0 (loop_rule (w_impl_GroomDirectL2 listZ0 nodesZ0 capacityZ0 sZ8) hoZ40 ?_)) (fun τ qZ41 => ?_) | refine tail_blk0 (loop_rule (w_impl_GroomDirectL2 listZ0 nodesZ0 capacityZ0 sZ8) hoZ40 ?_) (fun τ qZ41 => ?_)
      · exact ZK (ZA S_impl_GroomDirectL2.eq_1 SX_impl_GroomDirectL2.eq_1)
      · cases h
        try refine ZF trivial ?_
        refine ⟨rfl, Shp.sub qZ41 (by decide) (by decide) ?_⟩
        exact ZK SX_impl_GroomDirectL2.eq_1
    · simp only [ZC, A50R6]
      cases h
      exact ZL cZ9 (ZA S_impl_GroomDirectL1.eq_1 SX_impl_GroomDirectL1.eq_1)
  · cases h
    exact ZL cZ9 (ZA S_impl_GroomDirectL1.eq_1 SX_impl_GroomDirectL1.eq_1)
theorem w_impl_GroomDirect (listZ0 : List TTributary) (nodesZ0 : Int) (capacityZ0 : Int) {r : List (List Int) × Bool} (h : M_impl_GroomDirect listZ0 nodesZ0 capacityZ0 = some r) : Ok Try.prog 50 [.lst .o 3 (listZ0.map (e_TTributary .o)), .i nodesZ0, .i capacityZ0] ((fun r => .tup [.lst .u 1 (r.1.map (e_Li .u)), .b r.2]) r) := by
  refine ok_of_body hmix m50 rfl ?_
  unfold M_impl_GroomDirect at h
  simp only [ZC, A50, V50, body_eq]
  obtain ⟨oZ6, hoZ6, h⟩ := bind_s h
  try refine ZF trivial ?_
  refine join_rule0 (sh := (fun v => ⟨[(0, .lst .o 3 (listZ0.map (e_TTributary .o))), (1, .i nodesZ0), (5, .pt 5 0 0), (27, .b v)], [(5, .var (.i capacityZ0))]⟩)) (s := oZ6) ?_ ?_
  · replace h := hoZ6
    obtain ⟨rZ1, hrZ1, h⟩ := bind_s h
    refine ZF trivial ?_
    refine ZS trivial (w_impl_IsValidTributaries _ _ hrZ1) ?_
    refine ZG ?_
    obtain ⟨cZ2, h⟩ | ⟨cZ2, h⟩ := cond_s h
    · cases h
      exact ZL cZ2 trivial
    · obtain ⟨rZ3, hrZ3, h⟩ := bind_s h
      refine ZF cZ2 ?_
      refine ZS cZ2 (w_impl_within _ _ _ hrZ3) ?_
      refine ZG ?_
      obtain ⟨cZ4, h⟩ | ⟨cZ4, h⟩ := cond_s h
      · cases h
        exact ZL (ZA cZ2 cZ4) trivial
      · obtain ⟨rZ5, hrZ5, h⟩ := bind_s h
        refine ZF (ZA cZ2 cZ4) ?_
        refine ZS (ZA cZ2 cZ4) (w_slices_ContainsFunc_Tributary _ _ hrZ5 85 [.bp (.i capacityZ0) 0] ⟨fun ρ k => by simp only [VS1, VS2, VS3, VS4, VS5, VS6, VT1, VT2, finM_ret, finM_nrm, decide_true, decide_false, List.nodup_nil, List.nodup_cons, oks_p, oks_m, oks_h, ne_eq, not_false_eq_true, Int.reduceEq, Int.reduceNe, true_and, Nat.reduceSub, Nat.reduceMul, ↓reduceIte, reduceCtorEq, Nat.reduceEqDiff, Nat.reduceAdd, Nat.reduceLeDiff, Int.reduceLE], by simp [mentsL, AV.ments]⟩ (fun _ _ h => w_impl_GroomDirect_c1 _ _ h)) ?_
        refine ZG ?_
        cases h
        exact ZL (ZA cZ2 cZ4) trivial
  · simp only [ZC, A50R1]
    obtain ⟨cZ7, h⟩ | ⟨cZ7, h⟩ := cond_s h
    · cases h
      exact ZL cZ7 V50.eq_1
    · obtain ⟨oZ43, hoZ43, h⟩ := bind_s h
      try refine ZF cZ7 ?_
      refine join_rule0 (blk_rule0 (loop_rule (w_impl_GroomDirectL1 listZ0 nodesZ0 capacityZ0) hoZ43 ?_)) ?_
      · exact ZK (ZA S_impl_GroomDirectL1.eq_1 SX_impl_GroomDirectL1.eq_1)
      · simp only [ZC, SX_impl_GroomDirectL1, A50R8]
        cases h
        exact ZL cZ7 V50.eq_1
theorem w_spec_l1In (xZ0 : Int) (aZ0 : Int) (bZ0 : Int) {r : Bool} (h : M_spec_l1In xZ0 aZ0 bZ0 = some r) : Ok Try.prog 67 [.i xZ0, .i aZ0, .i bZ0] ((fun r => .b r) r) := by
  refine ok_of_body hmix m67 rfl ?_
  unfold M_spec_l1In at h
  simp only [ZC, A67, V67, body_eq]
  obtain ⟨cZ1, h⟩ | ⟨cZ1, h⟩ := cond_s h
  · cases h
    exact ZL cZ1 V67.eq_1
  · cases h
    exact ZL cZ1 V67.eq_1
theorem w_spec_l18Pair (aZ0 : Int) (bZ0 : Int) (nodesZ0 : Int) {r : Bool} (h : M_spec_l18Pair aZ0 bZ0 nodesZ0 = some r) : Ok Try.prog 95 [.i aZ0, .i bZ0, .i nodesZ0] ((fun r => .b r) r) := by
  refine ok_of_body hmix m95 rfl ?_
  unfold M_spec_l18Pair at h
  simp only [ZC, A95, V95, body_eq]
  obtain ⟨rZ1, hrZ1, h⟩ := bind_s h
  refine ZF trivial ?_
  refine ZS trivial (w_spec_l1In _ _ _ hrZ1) ?_
  refine ZG ?_
  obtain ⟨cZ2, h⟩ | ⟨cZ2, h⟩ := cond_s h
  · obtain ⟨rZ3, hrZ3, h⟩ := bind_s h
    refine ZF cZ2 ?_
    refine ZS cZ2 (w_spec_l1In _ _ _ hrZ3) ?_
    refine ZG ?_
    obtain ⟨cZ4, h⟩ | ⟨cZ4, h⟩ := cond_s h
    · cases h
      exact ZL (ZA cZ2 cZ4) V95.eq_1
    · cases h
      exact ZL (ZA cZ2 cZ4) V95.eq_1
  · cases h
    exact ZL cZ2 V95.eq_1
def S_spec_l18GoodL1 (listZ0 : List TTributary) (nodesZ0 : Int) (v : Int) : St := ⟨[(0, .lst .o 3 (listZ0.map (e_TTributary .o))), (1, .i nodesZ0), (5, .i v)], []⟩
def SX_spec_l18GoodL1 (listZ0 : List TTributary) (nodesZ0 : Int) (v : Unit) : St := ⟨[(0, .lst .o 3 (listZ0.map (e_TTributary .o))), (1, .i nodesZ0)], []⟩
theorem w_spec_l18GoodL1 (listZ0 : List TTributary) (nodesZ0 : Int) (sZ1 : Int) (o : Int ⊕ (Unit ⊕ Bool)) (h : M_spec_l18GoodL1 listZ0 nodesZ0 sZ1 = some o) : AWP (OkS Try.prog) A54L3 (qL [0, 1, 5] [] (S_spec_l18GoodL1 listZ0 nodesZ0) (qS (qX 0 [0, 1] [] (SX_spec_l18GoodL1 listZ0 nodesZ0)) (qR V54 (fun r => .b r))) o) (S_spec_l18GoodL1 listZ0 nodesZ0 sZ1) := by
  unfold M_spec_l18GoodL1 at h
  simp only [ZC, S_spec_l18GoodL1, A54L3]
  obtain ⟨oZ3, hoZ3, h⟩ := bind_s h
  try refine ZF trivial ?_
  refine join_rule0 (sh := (fun v => ⟨[(0, .lst .o 3 (listZ0.map (e_TTributary .o))), (1, .i nodesZ0), (5, .i sZ1), (13, .b v)], []⟩)) (s := oZ3) ?_ ?_
  · replace h := hoZ3
    obtain ⟨cZ2, h⟩ | ⟨cZ2, h⟩ := cond_s h
    · cases h
      exact ZL cZ2 trivial
    · cases h
      exact ZL cZ2 trivial
  · simp only [ZC, A54R1]
    obtain ⟨cZ4, h⟩ | ⟨cZ4, h⟩ := cond_s h
    · obtain ⟨oZ9, hoZ9, h⟩ := bind_s h
      try refine ZF cZ4 ?_
      refine join_rule0 (sh := (fun v => ⟨[(0, .lst .o 3 (listZ0.map (e_TTributary .o))), (1, .i nodesZ0), (5, .i sZ1), (37, .b v)], []⟩)) (s := oZ9) ?_ ?_
      · replace h := hoZ9
        obtain ⟨yZ5, hyZ5, h⟩ := bind_s h
        obtain ⟨hyZ5a, hyZ5b⟩ := geti_s hyZ5
        obtain ⟨rZ6, hrZ6, h⟩ := bind_s h
        refine ZF (ZA cZ4 (ZA hyZ5a hyZ5b)) ?_
        refine ZS (ZA cZ4 (ZA hyZ5a hyZ5b)) (w_spec_l18Pair _ _ _ hrZ6) ?_
        refine ZG ?_
        obtain ⟨cZ7, h⟩ | ⟨cZ7, h⟩ := cond_s h
        · cases h
          exact ZL (ZA cZ4 (ZA hyZ5a (ZA hyZ5b cZ7))) trivial
        · obtain ⟨rZ8, hrZ8, h⟩ := bind_s h
          refine ZF (ZA cZ4 (ZA hyZ5a (ZA hyZ5b cZ7))) ?_
          refine ZS (ZA cZ4 (ZA hyZ5a (ZA hyZ5b cZ7))) (w_spec_l1In _ _ _ hrZ8) ?_
          refine ZG ?_
          cases h
          exact ZL (ZA cZ4 (ZA hyZ5a (ZA hyZ5b cZ7))) trivial
      · simp only [ZC, A54R2]
        obtain ⟨cZ10, h⟩ | ⟨cZ10, h⟩ := cond_s h
        · cases h
          exact ZL (ZA cZ4 cZ10) V54.eq_1
        · cases h
          exact ZL (ZA cZ4 cZ10) (ZA S_spec_l18GoodL1.eq_1 SX_spec_l18GoodL1.eq_1)
    · cases h
      exact ZL cZ4 (ZA S_spec_l18GoodL1.eq_1 SX_spec_l18GoodL1.eq_1)
theorem w_spec_l18Good (listZ0 : List TTributary) (nodesZ0 : Int) {r : Bool} (h : M_spec_l18Good listZ0 nodesZ0 = some r) : Ok Try.prog 54 [.lst .o 3 (listZ0.map (e_TTributary .o)), .i nodesZ0] ((fun r => .b r) r) := by
  refine ok_of_body hmix m54 rfl ?_
  unfold M_spec_l18Good at h
  simp only [ZC, A54, V54, body_eq]
  obtain ⟨oZ11, hoZ11, h⟩ := bind_s h
  try refine ZF trivial ?_
  refine join_rule (o := oZ11) (blk_rule sideR (loop_rule (w_spec_l18GoodL1 listZ0 nodesZ0) hoZ11 ?_)) (fun vZ12 hv => ?_) (fun xZ13 hv e τ hne hq => ?_)
  · exact ZK (ZA S_spec_l18GoodL1.eq_1 SX_spec_l18GoodL1.eq_1)
  · subst hv
    simp only [] at h
    simp only [ZC, SX_spec_l18GoodL1, A54R4]
    obtain ⟨rZ14, hrZ14, h⟩ := bind_s h
    refine ZF trivial ?_
    refine ZS trivial (w_spec_l1In _ _ _ hrZ14) ?_
    refine ZG ?_
    obtain ⟨cZ15, h⟩ | ⟨cZ15, h⟩ := cond_s h
    · cases h
      exact ZL cZ15 V54.eq_1
    · cases h
      exact ZL cZ15 V54.eq_1
  · subst hv
    simp only [] at h
    obtain ⟨rfl, qZ16⟩ := hq
    cases h
    exact qZ16
theorem w_spec_l1Least (aZ0 : Int) (bZ0 : Int) {r : Int} (h : M_spec_l1Least aZ0 bZ0 = some r) : Ok Try.prog 87 [.i aZ0, .i bZ0] ((fun r => .i r) r) := by
  refine ok_of_body hmix m87 rfl ?_
  unfold M_spec_l1Least at h
  simp only [ZC, A87, V87, body_eq]
  obtain ⟨cZ1, h⟩ | ⟨cZ1, h⟩ := cond_s h
  · cases h
    exact ZL cZ1 V87.eq_1
  · cases h
    exact ZL cZ1 V87.eq_1
def S_spec_l18OrderL2 (ratesZ0 : List Int) (descendingZ0 : Bool) (sZ1 : Int × List Int) (v : Int) : St := ⟨[(0, .lst .o 1 (ratesZ0.map AV.i)), (1, .b descendingZ0), (5, .sl 5 0 sZ1.2.length), (6, .i sZ1.1), (7, .i v)], [(5, .arr 1 (sZ1.2.map AV.i))]⟩
def SX_spec_l18OrderL2 (ratesZ0 : List Int) (descendingZ0 : Bool) (sZ1 : Int × List Int) (v : Int) : St := ⟨[(0, .lst .o 1 (ratesZ0.map AV.i)), (1, .b descendingZ0), (5, .sl 5 0 sZ1.2.length), (6, .i sZ1.1), (7, .i v)], [(5, .arr 1 (sZ1.2.map AV.i))]⟩
theorem w_spec_l18OrderL2 (ratesZ0 : List Int) (descendingZ0 : Bool) (sZ1 : Int × List Int) (sZ3 : Int) (o : Int ⊕ Int) (h : M_spec_l18OrderL2 ratesZ0 descendingZ0 sZ1 sZ3 = some o) : AWP (OkS Try.prog) A62L1 (qL [0, 1, 5, 6, 7] [5] (S_spec_l18OrderL2 ratesZ0 descendingZ0 sZ1) (qX 2 [0, 1, 5, 6, 7] [5] (SX_spec_l18OrderL2 ratesZ0 descendingZ0 sZ1)) o) (S_spec_l18OrderL2 ratesZ0 descendingZ0 sZ1 sZ3) := by
  unfold M_spec_l18OrderL2 at h
  simp only [ZC, S_spec_l18OrderL2, A62L1]
  obtain ⟨cZ4, h⟩ | ⟨cZ4, h⟩ := cond_s h
  · obtain ⟨cZ5, h⟩ | ⟨cZ5, h⟩ := cond_s h
    · obtain ⟨kZ6, hkZ6, h⟩ := bind_s h
      obtain ⟨hkZ6a, hkZ6b⟩ := grd_s hkZ6
      obtain ⟨yZ7, hyZ7, h⟩ := bind_s h
      obtain ⟨yZ8, hyZ8, h⟩ := bind_s h
      obtain ⟨hyZ8a, hyZ8b⟩ := geti_s hyZ8
      obtain ⟨yZ9, hyZ9, h⟩ := bind_s h
      obtain ⟨hyZ9a, hyZ9b⟩ := geti_s hyZ9
      obtain ⟨cZ10, h⟩ | ⟨cZ10, h⟩ := cond_s h
      · cases h
        exact ZL (ZA cZ4 (ZA cZ5 (ZA hkZ6a (ZA hkZ6b (ZA hyZ7 (ZA hyZ8a (ZA hyZ8b (ZA hyZ9a (ZA hyZ9b cZ10))))))))) (ZA S_spec_l18OrderL2.eq_1 SX_spec_l18OrderL2.eq_1)
      · cases h
        exact ZL (ZA cZ4 (ZA cZ5 (ZA hkZ6a (ZA hkZ6b (ZA hyZ7 (ZA hyZ8a (ZA hyZ8b (ZA hyZ9a (ZA hyZ9b cZ10))))))))) (ZA S_spec_l18OrderL2.eq_1 SX_spec_l18OrderL2.eq_1)
    · cases h
      exact ZL (ZA cZ4 cZ5) (ZA S_spec_l18OrderL2.eq_1 SX_spec_l18OrderL2.eq_1)
  · cases h
    exact ZL cZ4 (ZA S_spec_l18OrderL2.eq_1 SX_spec_l18OrderL2.eq_1)
def S_spec_l18OrderL1 (ratesZ0 : List Int) (descendingZ0 : Bool) (v : Int × List Int) : St := ⟨[(0, .lst .o 1 (ratesZ0.map AV.i)), (1, .b descendingZ0), (5, .sl 5 0 v.2.length), (6, .i v.1)], [(5, .arr 1 (v.2.map AV.i))]⟩
def SX_spec_l18OrderL1 (v : List Int) : St := ⟨[(5, .sl 5 0 v.length)], [(5, .arr 1 (v.map AV.i))]⟩
theorem w_spec_l18OrderL1 (ratesZ0 : List Int) (descendingZ0 : Bool) (sZ1 : Int × List Int) (o : (Int × List Int) ⊕ (List Int)) (h : M_spec_l18OrderL1 ratesZ0 descendingZ0 sZ1 = some o) : AWP (OkS Try.prog) A62L3 (qL [0, 1, 5, 6] [5] (S_spec_l18OrderL1 ratesZ0 descendingZ0) (qX 0 [5] [5] (SX_spec_l18OrderL1)) o) (S_spec_l18OrderL1 ratesZ0 descendingZ0 sZ1) := by
  unfold M_spec_l18OrderL1 at h
  simp only [ZC, S_spec_l18OrderL1, A62L3]
  obtain ⟨cZ2, h⟩ | ⟨cZ2, h⟩ := cond_s h
  · obtain ⟨oZ11, hoZ11, h⟩ := bind_s h
    try refine ZF cZ2 ?_
    refine join_rule0 (blk_rule0 (loop_rule (w_spec_l18OrderL2 ratesZ0 descendingZ0 sZ1) hoZ11 ?_)) ?_
    · exact ZK (ZA S_spec_l18OrderL2.eq_1 SX_spec_l18OrderL2.eq_1)
    · simp only [ZC, SX_spec_l18OrderL2, A62R2]
      obtain ⟨uZ12, huZ12, h⟩ := bind_s h
      obtain ⟨huZ12a, huZ12b, huZ12c, huZ12d⟩ := grd_s huZ12
      obtain ⟨lZ13, hlZ13, h⟩ := bnd_s h
      have eZ14 : sub (sZ1.2.map AV.i) 0 (Int.toNat oZ11) = lZ13.map AV.i := by rw [sub_mapT, hlZ13]
      obtain ⟨uZ15, huZ15, h⟩ := bind_s h
      have huZ15g := grd_s huZ15
      obtain ⟨lZ16, hlZ16, h⟩ := bnd_s h
      have eZ17 : Row.arr 1 [(.i sZ1.1 : AV)] = Row.arr 1 (lZ16.map AV.i) := by rw [← hlZ16]; rfl
      have eZ18 : lZ16.length = 1 := by rw [← hlZ16]; rfl
      obtain ⟨uZ19, huZ19, h⟩ := bind_s h
      have huZ19g := grd_s huZ19
      obtain ⟨lZ20, hlZ20, h⟩ := bnd_s h
      have eZ21 : lZ13.map AV.i ++ lZ16.map AV.i = lZ20.map AV.i := by rw [← hlZ20, List.map_append]
      have eZ22 : lZ13.length + 1 = lZ20.length := by simp [← hlZ16, ← hlZ20] <;> omega
      rw [eZ22] at huZ19g
      obtain ⟨uZ23, huZ23, h⟩ := bind_s h
      obtain ⟨huZ23a, huZ23b, huZ23c, huZ23d⟩ := grd_s huZ23
      obtain ⟨lZ24, hlZ24, h⟩ := bnd_s h
      have eZ25 : sub (sZ1.2.map AV.i) (Int.toNat oZ11) (sZ1.2.length - (Int.toNat oZ11)) = lZ24.map AV.i := by rw [sub_mapT, hlZ24]
      obtain ⟨uZ26, huZ26, h⟩ := bind_s h
      have huZ26g := grd_s huZ26
      obtain ⟨lZ27, hlZ27, h⟩ := bnd_s h
      have eZ28 : lZ20.map AV.i ++ lZ24.map AV.i = lZ27.map AV.i := by rw [← hlZ27, List.map_append]
      have eZ29 : lZ20.length + lZ24.length = lZ27.length := by simp [← hlZ16, ← hlZ20, ← hlZ27] <;> omega
      rw [eZ29] at huZ26g
      cases h
      exact ZL (ZA cZ2 (ZA huZ12a (ZA huZ12b (ZA huZ12c (ZA huZ12d (ZA eZ14 (ZA huZ15g (ZA eZ17 (ZA eZ18 (ZA huZ19g (ZA eZ21 (ZA eZ22 (ZA huZ23a (ZA huZ23b (ZA huZ23c (ZA huZ23d (ZA eZ25 (ZA huZ26g (ZA eZ28 eZ29))))))))))))))))))) (ZA S_spec_l18OrderL1.eq_1 (ZA SX_spec_l18OrderL1.eq_1 (ZA hlZ16.symm (ZA hlZ20.symm hlZ27.symm))))
  · cases h
    exact ZL cZ2 (ZA S_spec_l18OrderL1.eq_1 SX_spec_l18OrderL1.eq_1)
theorem w_spec_l18Order (ratesZ0 : List Int) (descendingZ0 : Bool) {r : List Int} (h : M_spec_l18Order ratesZ0 descendingZ0 = some r) : Ok Try.prog 62 [.lst .o 1 (ratesZ0.map AV.i), .b descendingZ0] ((fun r => .lst .u 1 (r.map AV.i)) r) := by
  refine ok_of_body hmix m62 rfl ?_
  unfold M_spec_l18Order at h
  simp only [ZC, A62, V62, body_eq]
  obtain ⟨oZ30, hoZ30, h⟩ := bind_s h
  try refine ZF trivial ?_
  refine join_rule0 (blk_rule0 (loop_rule (w_spec_l18OrderL1 ratesZ0 descendingZ0) hoZ30 ?_)) ?_
  · exact ZK (ZA S_spec_l18OrderL1.eq_1 SX_spec_l18OrderL1.eq_1)
  · simp only [ZC, SX_spec_l18OrderL1, A62R4]
    cases h
    exact ZL trivial V62.eq_1
def S_spec_l18PackL2 (ratesZ0 : List Int) (orderZ0 : List Int) (capacityZ0 : Int) (sZ4 : Int × List Int × List Int) (yZ7 : Int) (v : Int) : St := ⟨[(0, .lst .o 1 (ratesZ0.map AV.i)), (1, .lst .o 1 (orderZ0.map AV.i)), (2, .i capacityZ0), (8, .sl 8 0 sZ4.2.1.length), (9, .sl 9 0 sZ4.2.2.length), (10, .i sZ4.1), (11, .i yZ7), (12, .i v)], [(8, .arr 1 (sZ4.2.1.map AV.i)), (9, .arr 1 (sZ4.2.2.map AV.i))]⟩
def SX_spec_l18PackL2 (ratesZ0 : List Int) (orderZ0 : List Int) (capacityZ0 : Int) (sZ4 : Int × List Int × List Int) (yZ7 : Int) (v : Int) : St := ⟨[(0, .lst .o 1 (ratesZ0.map AV.i)), (1, .lst .o 1 (orderZ0.map AV.i)), (2, .i capacityZ0), (8, .sl 8 0 sZ4.2.1.length), (9, .sl 9 0 sZ4.2.2.length), (10, .i sZ4.1), (11, .i yZ7), (12, .i v)], [(8, .arr 1 (sZ4.2.1.map AV.i)), (9, .arr 1 (sZ4.2.2.map AV.i))]⟩
theorem w_spec_l18PackL2 (ratesZ0 : List Int) (orderZ0 : List Int) (capacityZ0 : Int) (sZ4 : Int × List Int × List Int) (yZ7 : Int) (sZ8 : Int) (o : Int ⊕ Int) (h : M_spec_l18PackL2 sZ4 yZ7 sZ8 = some o) : AWP (OkS Try.prog) A61L1 (qL [0, 1, 2, 8, 9, 10, 11, 12] [8, 9] (S_spec_l18PackL2 ratesZ0 orderZ0 capacityZ0 sZ4 yZ7) (qX 2 [0, 1, 2, 8, 9, 10, 11, 12] [8, 9] (SX_spec_l18PackL2 ratesZ0 orderZ0 capacityZ0 sZ4 yZ7)) o) (S_spec_l18PackL2 ratesZ0 orderZ0 capacityZ0 sZ4 yZ7 sZ8) := by
  unfold M_spec_l18PackL2 at h
  simp only [ZC, S_spec_l18PackL2, A61L1]
  obtain ⟨cZ9, h⟩ | ⟨cZ9, h⟩ := cond_s h
  · obtain ⟨kZ10, hkZ10, h⟩ := bind_s h
    obtain ⟨hkZ10a, hkZ10b⟩ := grd_s hkZ10
    obtain ⟨yZ11, hyZ11, h⟩ := bind_s h
    obtain ⟨cZ12, h⟩ | ⟨cZ12, h⟩ := cond_s h
    · cases h
      exact ZL (ZA cZ9 (ZA hkZ10a (ZA hkZ10b (ZA hyZ11 cZ12)))) (ZA S_spec_l18PackL2.eq_1 SX_spec_l18PackL2.eq_1)
    · cases h
      exact ZL (ZA cZ9 (ZA hkZ10a (ZA hkZ10b (ZA hyZ11 cZ12)))) (ZA S_spec_l18PackL2.eq_1 SX_spec_l18PackL2.eq_1)
  · cases h
    exact ZL cZ9 (ZA S_spec_l18PackL2.eq_1 SX_spec_l18PackL2.eq_1)
def S_spec_l18PackL1 (ratesZ0 : List Int) (orderZ0 : List Int) (capacityZ0 : Int) (v : Int × List Int × List Int) : St := ⟨[(0, .lst .o 1 (ratesZ0.map AV.i)), (1, .lst .o 1 (orderZ0.map AV.i)), (2, .i capacityZ0), (8, .sl 8 0 v.2.1.length), (9, .sl 9 0 v.2.2.length), (10, .i v.1)], [(8, .arr 1 (v.2.1.map AV.i)), (9, .arr 1 (v.2.2.map AV.i))]⟩
def SX_spec_l18PackL1 (v : List Int × List Int) : St := ⟨[(8, .sl 8 0 v.1.length), (9, .sl 9 0 v.2.length)], [(8, .arr 1 (v.1.map AV.i)), (9, .arr 1 (v.2.map AV.i))]⟩
theorem w_spec_l18PackL1 (ratesZ0 : List Int) (orderZ0 : List Int) (capacityZ0 : Int) (sZ4 : Int × List Int × List Int) (o : (Int × List Int × List Int) ⊕ (List Int × List Int)) (h : M_spec_l18PackL1 ratesZ0 orderZ0 capacityZ0 sZ4 = some o) : AWP (OkS Try.prog) A61L4 (qL [0, 1, 2, 8, 9, 10] [8, 9] (S_spec_l18PackL1 ratesZ0 orderZ0 capacityZ0) (qX 0 [8, 9] [8, 9] (SX_spec_l18PackL1)) o) (S_spec_l18PackL1 ratesZ0 orderZ0 capacityZ0 sZ4) := by
  unfold M_spec_l18PackL1 at h
  simp only [ZC, S_spec_l18PackL1, A61L4]
  obtain ⟨cZ5, h⟩ | ⟨cZ5, h⟩ := cond_s h
  · obtain ⟨yZ6, hyZ6, h⟩ := bind_s h
    obtain ⟨hyZ6a, hyZ6b⟩ := geti_s hyZ6
    obtain ⟨yZ7, hyZ7, h⟩ := bind_s h
    obtain ⟨hyZ7a, hyZ7b⟩ := geti_s hyZ7
    obtain ⟨oZ13, hoZ13, h⟩ := bind_s h
    try refine ZF (ZA cZ5 (ZA hyZ6a (ZA hyZ6b (ZA hyZ7a hyZ7b)))) ?_
    refine join_rule0 (blk_rule0 (loop_rule (w_spec_l18PackL2 ratesZ0 orderZ0 capacityZ0 sZ4 yZ7) hoZ13 ?_)) ?_
    · exact ZK (ZA S_spec_l18PackL2.eq_1 SX_spec_l18PackL2.eq_1)
    · simp only [ZC, SX_spec_l18PackL2, A61R2]
      obtain ⟨oZ22, hoZ22, h⟩ := bind_s h
      try refine ZF (ZA cZ5 (ZA hyZ6a (ZA hyZ6b (ZA hyZ7a hyZ7b)))) ?_
      refine join_rule0 (sh := (fun v => ⟨[(0, .lst .o 1 (ratesZ0.map AV.i)), (1, .lst .o 1 (orderZ0.map AV.i)), (2, .i capacityZ0), (8, .sl 8 0 sZ4.2.1.length), (9, .sl 9 0 v.length), (10, .i sZ4.1), (11, .i yZ7), (12, .i oZ13)], [(8, .arr 1 (sZ4.2.1.map AV.i)), (9, .arr 1 (v.map AV.i))]⟩)) (s := oZ22) ?_ ?_
      · replace h := hoZ22
        obtain ⟨cZ14, h⟩ | ⟨cZ14, h⟩ := cond_s h
        · obtain ⟨lZ15, hlZ15, h⟩ := bnd_s h
          have eZ16 : Row.arr 1 [(.i capacityZ0 : AV)] = Row.arr 1 (lZ15.map AV.i) := by rw [← hlZ15]; rfl
          have eZ17 : lZ15.length = 1 := by rw [← hlZ15]; rfl
          obtain ⟨uZ18, huZ18, h⟩ := bind_s h
          have huZ18g := grd_s huZ18
          obtain ⟨lZ19, hlZ19, h⟩ := bnd_s h
          have eZ20 : sZ4.2.2.map AV.i ++ lZ15.map AV.i = lZ19.map AV.i := by rw [← hlZ19, List.map_append]
          have eZ21 : sZ4.2.2.length + 1 = lZ19.length := by simp [← hlZ15, ← hlZ19] <;> omega
          rw [eZ21] at huZ18g
          cases h
          exact ZL (ZA cZ5 (ZA hyZ6a (ZA hyZ6b (ZA hyZ7a (ZA hyZ7b (ZA cZ14 (ZA eZ16 (ZA eZ17 (ZA huZ18g (ZA eZ20 eZ21)))))))))) (ZA hlZ15.symm hlZ19.symm)
        · cases h
          exact ZL (ZA cZ5 (ZA hyZ6a (ZA hyZ6b (ZA hyZ7a (ZA hyZ7b cZ14))))) trivial
      · simp only [ZC, A61R3]
        obtain ⟨kZ23, hkZ23, h⟩ := bind_s h
        obtain ⟨hkZ23a, hkZ23b⟩ := grd_s hkZ23
        obtain ⟨yZ24, hyZ24, h⟩ := bind_s h
        obtain ⟨lZ25, hlZ25, h⟩ := bnd_s h
        have eZ26 : (oZ22.map AV.i).set (Int.toNat oZ13) (.i (IntKind.wrap .i64 (yZ24 - yZ7))) = lZ25.map AV.i := by rw [← hlZ25, List.map_set]
        obtain ⟨kZ27, hkZ27, h⟩ := bind_s h
        obtain ⟨hkZ27a, hkZ27b⟩ := grd_s hkZ27
        obtain ⟨yZ28, hyZ28, h⟩ := bind_s h
        obtain ⟨lZ29, hlZ29, h⟩ := bnd_s h
        have eZ30 : (sZ4.2.1.map AV.i).set (Int.toNat yZ6) (.i oZ13) = lZ29.map AV.i := by rw [← hlZ29, List.map_set]
        cases h
        exact ZL (ZA cZ5 (ZA hyZ6a (ZA hyZ6b (ZA hyZ7a (ZA hyZ7b (ZA hkZ23a (ZA hkZ23b (ZA hyZ24 (ZA eZ26 (ZA hkZ27a (ZA hkZ27b (ZA hyZ28 eZ30)))))))))))) (ZA S_spec_l18PackL1.eq_1 (ZA SX_spec_l18PackL1.eq_1 (ZA hlZ25.symm hlZ29.symm)))
  · cases h
    exact ZL cZ5 (ZA S_spec_l18PackL1.eq_1 SX_spec_l18PackL1.eq_1)
theorem w_spec_l18Pack (ratesZ0 : List Int) (orderZ0 : List Int) (capacityZ0 : Int) {r : List Int × Int} (h : M_spec_l18Pack ratesZ0 orderZ0 capacityZ0 = some r) : Ok Try.prog 61 [.lst .o 1 (ratesZ0.map AV.i), .lst .o 1 (orderZ0.map AV.i), .i capacityZ0] ((fun r => .tup [.lst .u 1 (r.1.map AV.i), .i r.2]) r) := by
  refine ok_of_body hmix m61 rfl ?_
  unfold M_spec_l18Pack at h
  simp only [ZC, A61, V61, body_eq]
  obtain ⟨uZ1, huZ1, h⟩ := bind_s h
  obtain ⟨huZ11, huZ12, huZ13, huZ14⟩ := grd_s huZ1
  obtain ⟨lZ2, hlZ2, h⟩ := bnd_s h
  have eZ3 : List.replicate (Int.toNat (ratesZ0.length : Int)) (.i 0 : AV) = lZ2.map AV.i := by rw [← hlZ2, List.map_replicate]
  obtain ⟨oZ31, hoZ31, h⟩ := bind_s h
  try refine ZF (ZA huZ11 (ZA huZ12 (ZA huZ13 (ZA huZ14 eZ3)))) ?_
  refine join_rule0 (blk_rule0 (loop_rule (w_spec_l18PackL1 ratesZ0 orderZ0 capacityZ0) hoZ31 ?_)) ?_
  · exact ZK (ZA S_spec_l18PackL1.eq_1 (ZA SX_spec_l18PackL1.eq_1 (ZA hlZ2.symm @Zr)))
  · simp only [ZC, SX_spec_l18PackL1, A61R5]
    cases h
    exact ZL (ZA huZ11 (ZA huZ12 (ZA huZ13 (ZA huZ14 eZ3)))) V61.eq_1
def S_spec_GroomDirectL1 (listZ0 : List TTributary) (nodesZ0 : Int) (capacityZ0 : Int) (v : Int) : St := ⟨[(0, .lst .o 3 (listZ0.map (e_TTributary .o))), (1, .i nodesZ0), (2, .i capacityZ0), (8, .sl 8 0 0), (9, .i v)], [(8, .arr 1 [])]⟩
def SX_spec_GroomDirectL1 (listZ0 : List TTributary) (nodesZ0 : Int) (capacityZ0 : Int) (v : Unit) : St := ⟨[(0, .lst .o 3 (listZ0.map (e_TTributary .o))), (1, .i nodesZ0), (2, .i capacityZ0), (8, .sl 8 0 0)], [(8, .arr 1 [])]⟩
theorem w_spec_GroomDirectL1 (listZ0 : List TTributary) (nodesZ0 : Int) (capacityZ0 : Int) (sZ6 : Int) (o : Int ⊕ (Unit ⊕ (List (List Int) × Bool))) (h : M_spec_GroomDirectL1 listZ0 capacityZ0 sZ6 = some o) : AWP (OkS Try.prog) A51L2 (qL [0, 1, 2, 8, 9] [8] (S_spec_GroomDirectL1 listZ0 nodesZ0 capacityZ0) (qS (qX 0 [0, 1, 2, 8] [8] (SX_spec_GroomDirectL1 listZ0 nodesZ0 capacityZ0)) (qR V51 (fun r => .tup [.lst .u 1 (r.1.map (e_Li .u)), .b r.2]))) o) (S_spec_GroomDirectL1 listZ0 nodesZ0 capacityZ0 sZ6) := by
  unfold M_spec_GroomDirectL1 at h
  simp only [ZC, S_spec_GroomDirectL1, A51L2]
  obtain ⟨cZ7, h⟩ | ⟨cZ7, h⟩ := cond_s h
  · obtain ⟨yZ8, hyZ8, h⟩ := bind_s h
    obtain ⟨hyZ8a, hyZ8b⟩ := geti_s hyZ8
    obtain ⟨cZ9, h⟩ | ⟨cZ9, h⟩ := cond_s h
    · cases h
      exact ZL (ZA cZ7 (ZA hyZ8a (ZA hyZ8b cZ9))) V51.eq_1
    · cases h
      exact ZL (ZA cZ7 (ZA hyZ8a (ZA hyZ8b cZ9))) (ZA S_spec_GroomDirectL1.eq_1 SX_spec_GroomDirectL1.eq_1)
  · cases h
    exact ZL cZ7 (ZA S_spec_GroomDirectL1.eq_1 SX_spec_GroomDirectL1.eq_1)
def S_spec_GroomDirectL4 (listZ0 : List TTributary) (nodesZ0 : Int) (capacityZ0 : Int) (sZ13 : Int × List (List Int)) (sZ15 : Int × List (List Int)) (v : Int × List Int) : St := ⟨[(0, .lst .o 3 (listZ0.map (e_TTributary .o))), (1, .i nodesZ0), (2, .i capacityZ0), (8, .sl 8 0 sZ15.2.length), (10, .i sZ13.1), (11, .i sZ15.1), (12, .sl 12 0 v.2.length), (13, .i v.1)], [(8, .arr 1 (sZ15.2.map (e_Li .u))), (12, .arr 1 (v.2.map AV.i))]⟩
def SX_spec_GroomDirectL4 (listZ0 : List TTributary) (nodesZ0 : Int) (capacityZ0 : Int) (sZ13 : Int × List (List Int)) (sZ15 : Int × List (List Int)) (v : List Int) : St := ⟨[(0, .lst .o 3 (listZ0.map (e_TTributary .o))), (1, .i nodesZ0), (2, .i capacityZ0), (8, .sl 8 0 sZ15.2.length), (10, .i sZ13.1), (11, .i sZ15.1), (12, .sl 12 0 v.length)], [(8, .arr 1 (sZ15.2.map (e_Li .u))), (12, .arr 1 (v.map AV.i))]⟩
theorem w_spec_GroomDirectL4 (listZ0 : List TTributary) (nodesZ0 : Int) (capacityZ0 : Int) (sZ13 : Int × List (List Int)) (sZ15 : Int × List (List Int)) (sZ17 : Int × List Int) (o : (Int × List Int) ⊕ (List Int)) (h : M_spec_GroomDirectL4 listZ0 sZ13 sZ15 sZ17 = some o) : AWP (OkS Try.prog) A51L5 (qL [0, 1, 2, 8, 10, 11, 12, 13] [8, 12] (S_spec_GroomDirectL4 listZ0 nodesZ0 capacityZ0 sZ13 sZ15) (qX 6 [0, 1, 2, 8, 10, 11, 12] [8, 12] (SX_spec_GroomDirectL4 listZ0 nodesZ0 capacityZ0 sZ13 sZ15)) o) (S_spec_GroomDirectL4 listZ0 nodesZ0 capacityZ0 sZ13 sZ15 sZ17) := by
  unfold M_spec_GroomDirectL4 at h
  simp only [ZC, S_spec_GroomDirectL4, A51L5]
  obtain ⟨cZ18, h⟩ | ⟨cZ18, h⟩ := cond_s h
  · obtain ⟨oZ23, hoZ23, h⟩ := bind_s h
    try refine ZF cZ18 ?_
    refine join_rule0 (sh := (fun v => ⟨[(0, .lst .o 3 (listZ0.map (e_TTributary .o))), (1, .i nodesZ0), (2, .i capacityZ0), (8, .sl 8 0 sZ15.2.length), (10, .i sZ13.1), (11, .i sZ15.1), (12, .sl 12 0 sZ17.2.length), (13, .i sZ17.1), (87, .b v)], [(8, .arr 1 (sZ15.2.map (e_Li .u))), (12, .arr 1 (sZ17.2.map AV.i))]⟩)) (s := oZ23) ?_ ?_
    · replace h := hoZ23
      obtain ⟨yZ19, hyZ19, h⟩ := bind_s h
      obtain ⟨hyZ19a, hyZ19b⟩ := geti_s hyZ19
      obtain ⟨rZ20, hrZ20, h⟩ := bind_s h
      refine ZF (ZA cZ18 (ZA hyZ19a hyZ19b)) ?_
      refine ZS (ZA cZ18 (ZA hyZ19a hyZ19b)) (w_spec_l1Least _ _ hrZ20) ?_
      refine ZG ?_
      obtain ⟨cZ21, h⟩ | ⟨cZ21, h⟩ := cond_s h
      · obtain ⟨rZ22, hrZ22, h⟩ := bind_s h
        refine ZF (ZA cZ18 (ZA hyZ19a (ZA hyZ19b cZ21))) ?_
        refine ZS (ZA cZ18 (ZA hyZ19a (ZA hyZ19b cZ21))) (w_spec_l1Most _ _ hrZ22) ?_
        refine ZG ?_
        cases h
        exact ZL (ZA cZ18 (ZA hyZ19a (ZA hyZ19b cZ21))) trivial
      · cases h
        exact ZL (ZA cZ18 (ZA hyZ19a (ZA hyZ19b cZ21))) trivial
    · simp only [ZC, A51R4]
      obtain ⟨cZ24, h⟩ | ⟨cZ24, h⟩ := cond_s h
      · obtain ⟨yZ25, hyZ25, h⟩ := bind_s h
        obtain ⟨hyZ25a, hyZ25b⟩ := geti_s hyZ25
        obtain ⟨lZ26, hlZ26, h⟩ := bnd_s h
        have eZ27 : Row.arr 1 [(.i yZ25.Rate : AV)] = Row.arr 1 (lZ26.map AV.i) := by rw [← hlZ26]; rfl
        have eZ28 : lZ26.length = 1 := by rw [← hlZ26]; rfl
        obtain ⟨uZ29, huZ29, h⟩ := bind_s h
        have huZ29g := grd_s huZ29
        obtain ⟨lZ30, hlZ30, h⟩ := bnd_s h
        have eZ31 : sZ17.2.map AV.i ++ lZ26.map AV.i = lZ30.map AV.i := by rw [← hlZ30, List.map_append]
        have eZ32 : sZ17.2.length + 1 = lZ30.length := by simp [← hlZ26, ← hlZ30] <;> omega
        rw [eZ32] at huZ29g
        cases h
        exact ZL (ZA cZ18 (ZA cZ24 (ZA hyZ25a (ZA hyZ25b (ZA eZ27 (ZA eZ28 (ZA huZ29g (ZA eZ31 eZ32)))))))) (ZA S_spec_GroomDirectL4.eq_1 (ZA SX_spec_GroomDirectL4.eq_1 (ZA hlZ26.symm hlZ30.symm)))
      · cases h
        exact ZL (ZA cZ18 cZ24) (ZA S_spec_GroomDirectL4.eq_1 SX_spec_GroomDirectL4.eq_1)
  · cases h
    exact ZL cZ18 (ZA S_spec_GroomDirectL4.eq_1 SX_spec_GroomDirectL4.eq_1)
def S_spec_GroomDirectL3 (listZ0 : List TTributary) (nodesZ0 : Int) (capacityZ0 : Int) (sZ13 : Int × List (List Int)) (v : Int × List (List Int)) : St := ⟨[(0, .lst .o 3 (listZ0.map (e_TTributary .o))), (1, .i nodesZ0), (2, .i capacityZ0), (8, .sl 8 0 v.2.length), (10, .i sZ13.1), (11, .i v.1)], [(8, .arr 1 (v.2.map (e_Li .u)))]⟩
def SX_spec_GroomDirectL3 (listZ0 : List TTributary) (nodesZ0 : Int) (capacityZ0 : Int) (sZ13 : Int × List (List Int)) (v : List (List Int)) : St := ⟨[(0, .lst .o 3 (listZ0.map (e_TTributary .o))), (1, .i nodesZ0), (2, .i capacityZ0), (8, .sl 8 0 v.length), (10, .i sZ13.1)], [(8, .arr 1 (v.map (e_Li .u)))]⟩
theorem w_spec_GroomDirectL3 (listZ0 : List TTributary) (nodesZ0 : Int) (capacityZ0 : Int) (sZ13 : Int × List (List Int)) (sZ15 : Int × List (List Int)) (o : (Int × List (List Int)) ⊕ (List (List Int))) (h : M_spec_GroomDirectL3 listZ0 nodesZ0 capacityZ0 sZ13 sZ15 = some o) : AWP (OkS Try.prog) A51L7 (qL [0, 1, 2, 8, 10, 11] [8] (S_spec_GroomDirectL3 listZ0 nodesZ0 capacityZ0 sZ13) (qX 4 [0, 1, 2, 8, 10] [8] (SX_spec_GroomDirectL3 listZ0 nodesZ0 capacityZ0 sZ13)) o) (S_spec_GroomDirectL3 listZ0 nodesZ0 capacityZ0 sZ13 sZ15) := by
  unfold M_spec_GroomDirectL3 at h
  simp only [ZC, S_spec_GroomDirectL3, A51L7]
  obtain ⟨cZ16, h⟩ | ⟨cZ16, h⟩ := cond_s h
  · obtain ⟨oZ33, hoZ33, h⟩ := bind_s h
    try refine ZF cZ16 ?_
    refine join_rule0 (blk_rule0 (loop_rule (w_spec_GroomDirectL4 listZ0 nodesZ0 capacityZ0 sZ13 sZ15) hoZ33 ?_)) ?_
    · exact ZK (ZA S_spec_GroomDirectL4.eq_1 SX_spec_GroomDirectL4.eq_1)
    · simp only [ZC, SX_spec_GroomDirectL4, A51R6]
      obtain ⟨cZ34, h⟩ | ⟨cZ34, h⟩ := cond_s h
      · obtain ⟨rZ35, hrZ35, h⟩ := bind_s h
        refine ZF (ZA cZ16 cZ34) ?_
        refine ZU (ZA cZ16 cZ34) (w_spec_l18Order _ _ hrZ35) ?_
        refine ZG ?_
        obtain ⟨rZ36, hrZ36, h⟩ := bind_s h
        refine ZF (ZA cZ16 cZ34) ?_
        refine ZU (ZA cZ16 cZ34) (w_spec_l18Pack _ _ _ hrZ36) ?_
        refine ZG ?_
        obtain ⟨lZ37, hlZ37, h⟩ := bnd_s h
        have eZ38 : Row.arr 1 [(.i sZ13.1 : AV), (.i sZ15.1 : AV), (.i rZ36.2 : AV)] = Row.arr 1 (lZ37.map AV.i) := by rw [← hlZ37]; rfl
        have eZ39 : lZ37.length = 3 := by rw [← hlZ37]; rfl
        have nZ40 : sub (lZ37.map AV.i) 0 3 = lZ37.map AV.i := sub_n _ (by simp [← hlZ37])
        obtain ⟨lZ41, hlZ41, h⟩ := bnd_s h
        have eZ42 : Row.arr 1 [(.lst .u 1 (lZ37.map AV.i) : AV)] = Row.arr 1 (lZ41.map (e_Li .u)) := by rw [← hlZ41]; rfl
        have eZ43 : lZ41.length = 1 := by rw [← hlZ41]; rfl
        obtain ⟨uZ44, huZ44, h⟩ := bind_s h
        have huZ44g := grd_s huZ44
        obtain ⟨lZ45, hlZ45, h⟩ := bnd_s h
        have eZ46 : sZ15.2.map (e_Li .u) ++ lZ41.map (e_Li .u) = lZ45.map (e_Li .u) := by rw [← hlZ45, List.map_append]
        have eZ47 : sZ15.2.length + 1 = lZ45.length := by simp [← hlZ37, ← hlZ41, ← hlZ45] <;> omega
        rw [eZ47] at huZ44g
        cases h
        exact ZL (ZA cZ16 (ZA cZ34 (ZA eZ38 (ZA eZ39 (ZA nZ40 (ZA eZ42 (ZA eZ43 (ZA huZ44g (ZA eZ46 eZ47))))))))) (ZA S_spec_GroomDirectL3.eq_1 (ZA SX_spec_GroomDirectL3.eq_1 (ZA hlZ37.symm (ZA hlZ41.symm hlZ45.symm))))
      · cases h
        exact ZL (ZA cZ16 cZ34) (ZA S_spec_GroomDirectL3.eq_1 SX_spec_GroomDirectL3.eq_1)
  · cases h
    exact ZL cZ16 (ZA S_spec_GroomDirectL3.eq_1 SX_spec_GroomDirectL3.eq_1)
def S_spec_GroomDirectL2 (listZ0 : List TTributary) (nodesZ0 : Int) (capacityZ0 : Int) (v : Int × List (List Int)) : St := ⟨[(0, .lst .o 3 (listZ0.map (e_TTributary .o))), (1, .i nodesZ0), (2, .i capacityZ0), (8, .sl 8 0 v.2.length), (10, .i v.1)], [(8, .arr 1 (v.2.map (e_Li .u)))]⟩
def SX_spec_GroomDirectL2 (v : List (List Int)) : St := ⟨[(8, .sl 8 0 v.length)], [(8, .arr 1 (v.map (e_Li .u)))]⟩
theorem w_spec_GroomDirectL2 (listZ0 : List TTributary) (nodesZ0 : Int) (capacityZ0 : Int) (sZ13 : Int × List (List Int)) (o : (Int × List (List Int)) ⊕ (List (List Int))) (h : M_spec_GroomDirectL2 listZ0 nodesZ0 capacityZ0 sZ13 = some o) : AWP (OkS Try.prog) A51L9 (qL [0, 1, 2, 8, 10] [8] (S_spec_GroomDirectL2 listZ0 nodesZ0 capacityZ0) (qX 2 [8] [8] (SX_spec_GroomDirectL2)) o) (S_spec_GroomDirectL2 listZ0 nodesZ0 capacityZ0 sZ13) := by
  unfold M_spec_GroomDirectL2 at h
  simp only [ZC, S_spec_GroomDirectL2, A51L9]
  obtain ⟨cZ14, h⟩ | ⟨cZ14, h⟩ := cond_s h
  · obtain ⟨oZ50, hoZ50, h⟩ := bind_s h
    try refine ZF cZ14 ?_
    refine join_rule0 (sh := (fun v => ⟨[(0, .lst .o 3 (listZ0.map (e_TTributary .o))), (1, .i nodesZ0), (2, .i capacityZ0), (8, .sl 8 0 v.length), (10, .i sZ13.1)], [(8, .arr 1 (v.map (e_Li .u)))]⟩)) (s := oZ50) ?_ ?_
    · replace h := hoZ50
      obtain ⟨oZ48, hoZ48, h⟩ := bind_s h
      try refine ZF cZ14 ?_
      first | refine tail_rule0 (blk_rule0 (loop_rule (w_spec_GroomDirectL3 listZ0 nodesZ0 capacityZ0 sZ13) hoZ48 ?_)) (fun τ qZ49 => ?_) | refine tail_blk0 (loop_rule (w_spec_GroomDirectL3 listZ0 nodesZ0 capacityZ0 sZ13) hoZ48 ?_) (fun τ qZ49 => ?_)
      · exact ZK (ZA S_spec_GroomDirectL3.eq_1 SX_spec_GroomDirectL3.eq_1)
      · cases h
        try refine ZF trivial ?_
        refine ⟨rfl, Shp.sub qZ49 (by decide) (by decide) ?_⟩
        exact ZK SX_spec_GroomDirectL3.eq_1
    · simp only [ZC, A51R8]
      cases h
      exact ZL cZ14 (ZA S_spec_GroomDirectL2.eq_1 SX_spec_GroomDirectL2.eq_1)
  · cases h
    exact ZL cZ14 (ZA S_spec_GroomDirectL2.eq_1 SX_spec_GroomDirectL2.eq_1)
theorem w_spec_GroomDirect (listZ0 : List TTributary) (nodesZ0 : Int) (capacityZ0 : Int) {r : List (List Int) × Bool} (h : M_spec_GroomDirect listZ0 nodesZ0 capacityZ0 = some r) : Ok Try.prog 51 [.lst .o 3 (listZ0.map (e_TTributary .o)), .i nodesZ0, .i capacityZ0] ((fun r => .tup [.lst .u 1 (r.1.map (e_Li .u)), .b r.2]) r) := by
  refine ok_of_body hmix m51 rfl ?_
  unfold M_spec_GroomDirect at h
  simp only [ZC, A51, V51, body_eq]
  obtain ⟨oZ4, hoZ4, h⟩ := bind_s h
  try refine ZF trivial ?_
  refine join_rule0 (sh := (fun v => ⟨[(0, .lst .o 3 (listZ0.map (e_TTributary .o))), (1, .i nodesZ0), (2, .i capacityZ0), (8, .sl 8 0 0), (25, .b v)], [(8, .arr 1 [])]⟩)) (s := oZ4) ?_ ?_
  · replace h := hoZ4
    obtain ⟨rZ1, hrZ1, h⟩ := bind_s h
    refine ZF trivial ?_
    refine ZS trivial (w_spec_l18Good _ _ hrZ1) ?_
    refine ZG ?_
    obtain ⟨cZ2, h⟩ | ⟨cZ2, h⟩ := cond_s h
    · cases h
      exact ZL cZ2 trivial
    · obtain ⟨rZ3, hrZ3, h⟩ := bind_s h
      refine ZF cZ2 ?_
      refine ZS cZ2 (w_spec_l1In _ _ _ hrZ3) ?_
      refine ZG ?_
      cases h
      exact ZL cZ2 trivial
  · simp only [ZC, A51R1]
    obtain ⟨cZ5, h⟩ | ⟨cZ5, h⟩ := cond_s h
    · cases h
      exact ZL cZ5 V51.eq_1
    · obtain ⟨oZ10, hoZ10, h⟩ := bind_s h
      try refine ZF cZ5 ?_
      refine join_rule (o := oZ10) (blk_rule sideR (loop_rule (w_spec_GroomDirectL1 listZ0 nodesZ0 capacityZ0) hoZ10 ?_)) (fun vZ11 hv => ?_) (fun xZ12 hv e τ hne hq => ?_)
      · exact ZK (ZA S_spec_GroomDirectL1.eq_1 SX_spec_GroomDirectL1.eq_1)
      · subst hv
        simp only [] at h
        simp only [ZC, SX_spec_GroomDirectL1, A51R3]
        obtain ⟨oZ51, hoZ51, h⟩ := bind_s h
        try refine ZF cZ5 ?_
        refine join_rule0 (blk_rule0 (loop_rule (w_spec_GroomDirectL2 listZ0 nodesZ0 capacityZ0) hoZ51 ?_)) ?_
        · exact ZK (ZA S_spec_GroomDirectL2.eq_1 SX_spec_GroomDirectL2.eq_1)
        · simp only [ZC, SX_spec_GroomDirectL2, A51R10]
          cases h
          exact ZL cZ5 V51.eq_1
      · subst hv
        simp only [] at h
        obtain ⟨rfl, qZ52⟩ := hq
        cases h
        exact qZ52
def S_laws_FnDirectL2 (rZ3 : List TTributary × Int × Int) (rZ4 : List (List Int) × Bool) (sZ12 : Int × Int) (v : Int × Int × Int) : St := ⟨[(3, .sl 3 0 rZ3.1.length), (5, .i rZ3.2.2), (6, .sl 6 0 rZ4.1.length), (10, .i sZ12.1), (11, .i sZ12.2), (12, .i v.1), (13, .i v.2.1), (14, .i v.2.2)], [(3, .arr 3 (rZ3.1.map (e_TTributary .u))), (6, .arr 1 (rZ4.1.map (e_Li .u)))]⟩
def SX_laws_FnDirectL2 (rZ3 : List TTributary × Int × Int) (rZ4 : List (List Int) × Bool) (sZ12 : Int × Int) (v : Int × Int) : St := ⟨[(3, .sl 3 0 rZ3.1.length), (5, .i rZ3.2.2), (6, .sl 6 0 rZ4.1.length), (10, .i sZ12.1), (11, .i sZ12.2), (12, .i v.1), (13, .i v.2)], [(3, .arr 3 (rZ3.1.map (e_TTributary .u))), (6, .arr 1 (rZ4.1.map (e_Li .u)))]⟩
theorem w_laws_FnDirectL2 (rZ3 : List TTributary × Int × Int) (rZ4 : List (List Int) × Bool) (sZ12 : Int × Int) (sZ17 : Int × Int × Int) (o : (Int × Int × Int) ⊕ (Int × Int)) (h : M_laws_FnDirectL2 rZ3 rZ4 sZ12 sZ17 = some o) : AWP (OkS Try.prog) A11L4 (qL [3, 5, 6, 10, 11, 12, 13, 14] [3, 6] (S_laws_FnDirectL2 rZ3 rZ4 sZ12) (qX 2 [3, 5, 6, 10, 11, 12, 13] [3, 6] (SX_laws_FnDirectL2 rZ3 rZ4 sZ12)) o) (S_laws_FnDirectL2 rZ3 rZ4 sZ12 sZ17) := by
  unfold M_laws_FnDirectL2 at h
  simp only [ZC, S_laws_FnDirectL2, A11L4]
  obtain ⟨cZ18, h⟩ | ⟨cZ18, h⟩ := cond_s h
  · obtain ⟨oZ30, hoZ30, h⟩ := bind_s h
    try refine ZF cZ18 ?_
    refine join_rule0 (sh := (fun v => ⟨[(3, .sl 3 0 rZ3.1.length), (5, .i rZ3.2.2), (6, .sl 6 0 rZ4.1.length), (10, .i sZ12.1), (11, .i sZ12.2), (12, .i sZ17.1), (13, .i sZ17.2.1), (14, .i sZ17.2.2), (132, .b v)], [(3, .arr 3 (rZ3.1.map (e_TTributary .u))), (6, .arr 1 (rZ4.1.map (e_Li .u)))]⟩)) (s := oZ30) ?_ ?_
    · replace h := hoZ30
      obtain ⟨kZ19, hkZ19, h⟩ := bind_s h
      obtain ⟨hkZ19a, hkZ19b⟩ := grd_s hkZ19
      obtain ⟨yZ20, hyZ20, h⟩ := bind_s h
      obtain ⟨kZ21, hkZ21, h⟩ := bind_s h
      obtain ⟨hkZ21a, hkZ21b⟩ := grd_s hkZ21
      obtain ⟨yZ22, hyZ22, h⟩ := bind_s h
      obtain ⟨yZ23, hyZ23, h⟩ := bind_s h
      obtain ⟨hyZ23a, hyZ23b⟩ := geti_s hyZ23
      obtain ⟨cZ24, h⟩ | ⟨cZ24, h⟩ := cond_s h
      · obtain ⟨yZ25, hyZ25, h⟩ := bind_s h
        obtain ⟨hyZ25a, hyZ25b⟩ := geti_s hyZ25
        obtain ⟨cZ26, h⟩ | ⟨cZ26, h⟩ := cond_s h
        · cases h
          exact ZL (ZA cZ18 (ZA hkZ19a (ZA hkZ19b (ZA hyZ20 (ZA hkZ21a (ZA hkZ21b (ZA hyZ22 (ZA hyZ23a (ZA hyZ23b (ZA cZ24 (ZA hyZ25a (ZA hyZ25b cZ26)))))))))))) trivial
        · obtain ⟨cZ27, h⟩ | ⟨cZ27, h⟩ := cond_s h
          · cases h
            exact ZL (ZA cZ18 (ZA hkZ19a (ZA hkZ19b (ZA hyZ20 (ZA hkZ21a (ZA hkZ21b (ZA hyZ22 (ZA hyZ23a (ZA hyZ23b (ZA cZ24 (ZA hyZ25a (ZA hyZ25b (ZA cZ26 cZ27))))))))))))) trivial
          · cases h
            exact ZL (ZA cZ18 (ZA hkZ19a (ZA hkZ19b (ZA hyZ20 (ZA hkZ21a (ZA hkZ21b (ZA hyZ22 (ZA hyZ23a (ZA hyZ23b (ZA cZ24 (ZA hyZ25a (ZA hyZ25b (ZA cZ26 cZ27))))))))))))) trivial
      · obtain ⟨yZ28, hyZ28, h⟩ := bind_s h
        obtain ⟨hyZ28a, hyZ28b⟩ := geti_s hyZ28
        obtain ⟨cZ29, h⟩ | ⟨cZ29, h⟩ := cond_s h
        · cases h
          exact ZL (ZA cZ18 (ZA hkZ19a (ZA hkZ19b (ZA hyZ20 (ZA hkZ21a (ZA hkZ21b (ZA hyZ22 (ZA hyZ23a (ZA hyZ23b (ZA cZ24 (ZA hyZ28a (ZA hyZ28b cZ29)))))))))))) trivial
        · cases h
          exact ZL (ZA cZ18 (ZA hkZ19a (ZA hkZ19b (ZA hyZ20 (ZA hkZ21a (ZA hkZ21b (ZA hyZ22 (ZA hyZ23a (ZA hyZ23b (ZA cZ24 (ZA hyZ28a (ZA hyZ28b cZ29)))))))))))) trivial
    · simp only [ZC, A11R3]
      obtain ⟨cZ31, h⟩ | ⟨cZ31, h⟩ := cond_s h
      · obtain ⟨kZ32, hkZ32, h⟩ := bind_s h
        obtain ⟨hkZ32a, hkZ32b⟩ := grd_s hkZ32
        obtain ⟨yZ33, hyZ33, h⟩ := bind_s h
        cases h
        exact ZL (ZA cZ18 (ZA cZ31 (ZA hkZ32a (ZA hkZ32b hyZ33)))) (ZA S_laws_FnDirectL2.eq_1 SX_laws_FnDirectL2.eq_1)
      · cases h
        exact ZL (ZA cZ18 cZ31) (ZA S_laws_FnDirectL2.eq_1 SX_laws_FnDirectL2.eq_1)
  · cases h
    exact ZL cZ18 (ZA S_laws_FnDirectL2.eq_1 SX_laws_FnDirectL2.eq_1)
def S_laws_FnDirectL1 (rZ3 : List TTributary × Int × Int) (rZ4 : List (List Int) × Bool) (v : Int × Int) : St := ⟨[(3, .sl 3 0 rZ3.1.length), (5, .i rZ3.2.2), (6, .sl 6 0 rZ4.1.length), (10, .i v.1), (11, .i v.2)], [(3, .arr 3 (rZ3.1.map (e_TTributary .u))), (6, .arr 1 (rZ4.1.map (e_Li .u)))]⟩
def SX_laws_FnDirectL1 (rZ3 : List TTributary × Int × Int) (v : Int) : St := ⟨[(3, .sl 3 0 rZ3.1.length), (10, .i v)], [(3, .arr 3 (rZ3.1.map (e_TTributary .u)))]⟩
theorem w_laws_FnDirectL1 (rZ3 : List TTributary × Int × Int) (rZ4 : List (List Int) × Bool) (sZ12 : Int × Int) (o : (Int × Int) ⊕ (Int ⊕ Bool)) (h : M_laws_FnDirectL1 rZ3 rZ4 sZ12 = some o) : AWP (OkS Try.prog) A11L7 (qL [3, 5, 6, 10, 11] [3, 6] (S_laws_FnDirectL1 rZ3 rZ4) (qS (qX 0 [3, 10] [3] (SX_laws_FnDirectL1 rZ3)) (qR V11 (fun r => .b r))) o) (S_laws_FnDirectL1 rZ3 rZ4 sZ12) := by
  unfold M_laws_FnDirectL1 at h
  simp only [ZC, S_laws_FnDirectL1, A11L7]
  obtain ⟨cZ13, h⟩ | ⟨cZ13, h⟩ := cond_s h
  · obtain ⟨kZ14, hkZ14, h⟩ := bind_s h
    obtain ⟨hkZ14a, hkZ14b⟩ := grd_s hkZ14
    obtain ⟨yZ15, hyZ15, h⟩ := bind_s h
    obtain ⟨cZ16, h⟩ | ⟨cZ16, h⟩ := cond_s h
    · cases h
      exact ZL (ZA cZ13 (ZA hkZ14a (ZA hkZ14b (ZA hyZ15 cZ16)))) V11.eq_1
    · obtain ⟨oZ34, hoZ34, h⟩ := bind_s h
      try refine ZF (ZA cZ13 (ZA hkZ14a (ZA hkZ14b (ZA hyZ15 cZ16)))) ?_
      refine join_rule0 (blk_rule0 (loop_rule (w_laws_FnDirectL2 rZ3 rZ4 sZ12) hoZ34 ?_)) ?_
      · exact ZK (ZA S_laws_FnDirectL2.eq_1 SX_laws_FnDirectL2.eq_1)
      · simp only [ZC, SX_laws_FnDirectL2, A11R5]
        obtain ⟨oZ38, hoZ38, h⟩ := bind_s h
        try refine ZF (ZA cZ13 (ZA hkZ14a (ZA hkZ14b (ZA hyZ15 cZ16)))) ?_
        refine join_rule0 (sh := (fun v => ⟨[(3, .sl 3 0 rZ3.1.length), (5, .i rZ3.2.2), (6, .sl 6 0 rZ4.1.length), (10, .i sZ12.1), (11, .i sZ12.2), (13, .i oZ34.2), (165, .b v)], [(3, .arr 3 (rZ3.1.map (e_TTributary .u))), (6, .arr 1 (rZ4.1.map (e_Li .u)))]⟩)) (s := oZ38) ?_ ?_
        · replace h := hoZ38
          obtain ⟨cZ35, h⟩ | ⟨cZ35, h⟩ := cond_s h
          · cases h
            exact ZL (ZA cZ13 (ZA hkZ14a (ZA hkZ14b (ZA hyZ15 (ZA cZ16 cZ35))))) trivial
          · obtain ⟨yZ36, hyZ36, h⟩ := bind_s h
            obtain ⟨hyZ36a, hyZ36b⟩ := geti_s hyZ36
            obtain ⟨cZ37, h⟩ | ⟨cZ37, h⟩ := cond_s h
            · cases h
              exact ZL (ZA cZ13 (ZA hkZ14a (ZA hkZ14b (ZA hyZ15 (ZA cZ16 (ZA cZ35 (ZA hyZ36a (ZA hyZ36b cZ37)))))))) trivial
            · cases h
              exact ZL (ZA cZ13 (ZA hkZ14a (ZA hkZ14b (ZA hyZ15 (ZA cZ16 (ZA cZ35 (ZA hyZ36a (ZA hyZ36b cZ37)))))))) trivial
        · simp only [ZC, A11R6]
          obtain ⟨cZ39, h⟩ | ⟨cZ39, h⟩ := cond_s h
          · cases h
            exact ZL (ZA cZ13 (ZA hkZ14a (ZA hkZ14b (ZA hyZ15 (ZA cZ16 cZ39))))) V11.eq_1
          · cases h
            exact ZL (ZA cZ13 (ZA hkZ14a (ZA hkZ14b (ZA hyZ15 (ZA cZ16 cZ39))))) (ZA S_laws_FnDirectL1.eq_1 SX_laws_FnDirectL1.eq_1)
  · cases h
    exact ZL cZ13 (ZA S_laws_FnDirectL1.eq_1 SX_laws_FnDirectL1.eq_1)
theorem w_laws_FnDirect (codeZ0 : List Int) {r : Bool} (h : M_laws_FnDirect codeZ0 = some r) : Ok Try.prog 11 [.lst .o 1 (codeZ0.map AV.u8)] ((fun r => .b r) r) := by
  refine ok_of_body hmix m11 rfl ?_
  unfold M_laws_FnDirect at h
  simp only [ZC, A11, V11, body_eq]
  obtain ⟨rZ1, hrZ1, h⟩ := bind_s h
  refine ZF trivial ?_
  refine ZS trivial (w_laws_vBig _ hrZ1) ?_
  refine ZG ?_
  obtain ⟨cZ2, h⟩ | ⟨cZ2, h⟩ := cond_s h
  · cases h
    exact ZL cZ2 V11.eq_1
  · obtain ⟨rZ3, hrZ3, h⟩ := bind_s h
    refine ZF cZ2 ?_
    refine ZU cZ2 (w_spec_DrawGroomDirect _ hrZ3) ?_
    refine ZG ?_
    obtain ⟨rZ4, hrZ4, h⟩ := bind_s h
    refine ZF cZ2 ?_
    refine ZU cZ2 (w_impl_GroomDirect _ _ _ hrZ4) ?_
    refine ZG ?_
    obtain ⟨rZ5, hrZ5, h⟩ := bind_s h
    refine ZF cZ2 ?_
    refine ZU cZ2 (w_spec_GroomDirect _ _ _ hrZ5) ?_
    refine ZG ?_
    obtain ⟨oZ8, hoZ8, h⟩ := bind_s h
    try refine ZF cZ2 ?_
    refine join_rule0 (sh := (fun v => ⟨[(3, .sl 3 0 rZ3.1.length), (5, .i rZ3.2.2), (6, .sl 6 0 rZ4.1.length), (7, .b rZ4.2), (8, .sl 8 0 rZ5.1.length), (9, .b rZ5.2), (50, .b v)], [(3, .arr 3 (rZ3.1.map (e_TTributary .u))), (6, .arr 1 (rZ4.1.map (e_Li .u))), (8, .arr 1 (rZ5.1.map (e_Li .u)))]⟩)) (s := oZ8) ?_ ?_
    · replace h := hoZ8
      obtain ⟨cZ6, h⟩ | ⟨cZ6, h⟩ := cond_s h
      · cases h
        exact ZL (ZA cZ2 cZ6) trivial
      · obtain ⟨cZ7, h⟩ | ⟨cZ7, h⟩ := cond_s h
        · cases h
          exact ZL (ZA cZ2 (ZA cZ6 cZ7)) trivial
        · cases h
          exact ZL (ZA cZ2 (ZA cZ6 cZ7)) trivial
    · simp only [ZC, A11R1]
      obtain ⟨cZ9, h⟩ | ⟨cZ9, h⟩ := cond_s h
      · obtain ⟨oZ11, hoZ11, h⟩ := bind_s h
        try refine ZF (ZA cZ2 cZ9) ?_
        refine join_rule0 (sh := (fun v => ⟨[(2, .b v)], []⟩)) (s := oZ11) ?_ ?_
        · replace h := hoZ11
          obtain ⟨cZ10, h⟩ | ⟨cZ10, h⟩ := cond_s h
          · cases h
            exact ZL (ZA cZ2 (ZA cZ9 cZ10)) trivial
          · cases h
            exact ZL (ZA cZ2 (ZA cZ9 cZ10)) trivial
        · simp only [ZC, A11R2]
          cases h
          exact ZL (ZA cZ2 cZ9) V11.eq_1
      · obtain ⟨oZ40, hoZ40, h⟩ := bind_s h
        try refine ZF (ZA cZ2 cZ9) ?_
        refine join_rule (o := oZ40) (blk_rule sideR (loop_rule (w_laws_FnDirectL1 rZ3 rZ4) hoZ40 ?_)) (fun vZ41 hv => ?_) (fun xZ42 hv e τ hne hq => ?_)
        · exact ZK (ZA S_laws_FnDirectL1.eq_1 SX_laws_FnDirectL1.eq_1)
        · subst hv
          simp only [] at h
          simp only [ZC, SX_laws_FnDirectL1, A11R8]
          cases h
          exact ZL (ZA cZ2 cZ9) V11.eq_1
        · subst hv
          simp only [] at h
          obtain ⟨rfl, qZ43⟩ := hq
          cases h
          exact qZ43
end Vs

