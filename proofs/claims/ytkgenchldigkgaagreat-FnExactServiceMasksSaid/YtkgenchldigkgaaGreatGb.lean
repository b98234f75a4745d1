/-
  Part of the proof that the law FnExactServiceMasks returns true at every input; no condition beside the row's own.
-/
import Derived.Test.YtkgenchldigkgaaGreatGa
set_option linter.defProp false
set_option linter.unusedSimpArgs false
set_option linter.unusedVariables false
set_option maxHeartbeats 1000000
set_option maxRecDepth 8000
namespace Vs
open Go Go.Proofs
attribute [local irreducible] AWP stOps eff awpC callA callM
theorem VT1 : (∀ (f : Fl) (x : TFiber), e_TFiber f x = .agg [.i x.A, .i x.B, .i x.Length, .i x.Risk]) ∧
  (∀ (f : Fl) (x : TNetwork), e_TNetwork f x = .agg [.lst f 1 (x.Nodes.map AV.z), .lst f 4 (x.Fibers.map (e_TFiber f))]) ∧
  (∀ (f : Fl) (x : TRoute), e_TRoute f x = .agg [.i x.Start, .lst f 1 (x.Fibers.map AV.i)]) ∧
  (∀ (f : Fl) (x : TBlock), e_TBlock f x = .agg [.i x.First, .i x.Count]) ∧
  (∀ (f : Fl) (x : TService), e_TService f x = .agg [.i x.Id, .i x.Class, .i x.Work.Start, .lst f 1 (x.Work.Fibers.map AV.i), .i x.WorkBlock.First, .i x.WorkBlock.Count, .i x.Spare.Start, .lst f 1 (x.Spare.Fibers.map AV.i), .i x.SpareBlock.First, .i x.SpareBlock.Count]) ∧
  (∀ (f : Fl) (x : List Int), e_Li f x = .lst f 1 (x.map AV.i)) ∧
  (∀ (f : Fl) (x : TLight), e_TLight f x = .agg [.i x.Id, .i x.Route.Start, .lst f 1 (x.Route.Fibers.map AV.i), .i x.Block.First, .i x.Block.Count]) := ⟨fun _ _ => rfl, fun _ _ => rfl, fun _ _ => rfl, fun _ _ => rfl, fun _ _ => rfl, fun _ _ => rfl, fun _ _ => rfl⟩
theorem VT2 : (∀ (f : Fl) (x : TFiber), (e_TFiber f x).nrm = e_TFiber .o x) ∧
  (∀ (f : Fl) (xs : List TFiber), (xs.map (e_TFiber f)).map AV.nrm = xs.map (e_TFiber .o)) ∧
  (∀ (f : Fl) (x : TFiber), (e_TFiber f x).als = e_TFiber f.als x) ∧
  (∀ (f : Fl) (xs : List TFiber), (xs.map (e_TFiber f)).map AV.als = xs.map (e_TFiber f.als)) ∧
  (∀ (f : Fl) (x : TFiber), (e_TFiber f x).fix = e_TFiber f.fix x) ∧
  (∀ (f : Fl) (xs : List TFiber), (xs.map (e_TFiber f)).map AV.fix = xs.map (e_TFiber f.fix)) ∧
  (∀ (f : Fl) (x : TNetwork), (e_TNetwork f x).nrm = e_TNetwork .o x) ∧
  (∀ (f : Fl) (xs : List TNetwork), (xs.map (e_TNetwork f)).map AV.nrm = xs.map (e_TNetwork .o)) ∧
  (∀ (f : Fl) (x : TNetwork), (e_TNetwork f x).als = e_TNetwork f.als x) ∧
  (∀ (f : Fl) (xs : List TNetwork), (xs.map (e_TNetwork f)).map AV.als = xs.map (e_TNetwork f.als)) ∧
  (∀ (f : Fl) (x : TNetwork), (e_TNetwork f x).fix = e_TNetwork f.fix x) ∧
  (∀ (f : Fl) (xs : List TNetwork), (xs.map (e_TNetwork f)).map AV.fix = xs.map (e_TNetwork f.fix)) ∧
  (∀ (f : Fl) (x : TRoute), (e_TRoute f x).nrm = e_TRoute .o x) ∧
  (∀ (f : Fl) (xs : List TRoute), (xs.map (e_TRoute f)).map AV.nrm = xs.map (e_TRoute .o)) ∧
  (∀ (f : Fl) (x : TRoute), (e_TRoute f x).als = e_TRoute f.als x) ∧
  (∀ (f : Fl) (xs : List TRoute), (xs.map (e_TRoute f)).map AV.als = xs.map (e_TRoute f.als)) ∧
  (∀ (f : Fl) (x : TRoute), (e_TRoute f x).fix = e_TRoute f.fix x) ∧
  (∀ (f : Fl) (xs : List TRoute), (xs.map (e_TRoute f)).map AV.fix = xs.map (e_TRoute f.fix)) ∧
  (∀ (f : Fl) (x : TBlock), (e_TBlock f x).nrm = e_TBlock .o x) ∧
  (∀ (f : Fl) (xs : List TBlock), (xs.map (e_TBlock f)).map AV.nrm = xs.map (e_TBlock .o)) ∧
  (∀ (f : Fl) (x : TBlock), (e_TBlock f x).als = e_TBlock f.als x) ∧
  (∀ (f : Fl) (xs : List TBlock), (xs.map (e_TBlock f)).map AV.als = xs.map (e_TBlock f.als)) ∧
  (∀ (f : Fl) (x : TBlock), (e_TBlock f x).fix = e_TBlock f.fix x) ∧
  (∀ (f : Fl) (xs : List TBlock), (xs.map (e_TBlock f)).map AV.fix = xs.map (e_TBlock f.fix)) ∧
  (∀ (f : Fl) (x : TService), (e_TService f x).nrm = e_TService .o x) ∧
  (∀ (f : Fl) (xs : List TService), (xs.map (e_TService f)).map AV.nrm = xs.map (e_TService .o)) ∧
  (∀ (f : Fl) (x : TService), (e_TService f x).als = e_TService f.als x) ∧
  (∀ (f : Fl) (xs : List TService), (xs.map (e_TService f)).map AV.als = xs.map (e_TService f.als)) ∧
  (∀ (f : Fl) (x : TService), (e_TService f x).fix = e_TService f.fix x) ∧
  (∀ (f : Fl) (xs : List TService), (xs.map (e_TService f)).map AV.fix = xs.map (e_TService f.fix)) ∧
  (∀ (f : Fl) (x : List Int), (e_Li f x).nrm = e_Li .o x) ∧
  (∀ (f : Fl) (xs : List (List Int)), (xs.map (e_Li f)).map AV.nrm = xs.map (e_Li .o)) ∧
  (∀ (f : Fl) (x : List Int), (e_Li f x).als = e_Li f.als x) ∧
  (∀ (f : Fl) (xs : List (List Int)), (xs.map (e_Li f)).map AV.als = xs.map (e_Li f.als)) ∧
  (∀ (f : Fl) (x : List Int), (e_Li f x).fix = e_Li f.fix x) ∧
  (∀ (f : Fl) (xs : List (List Int)), (xs.map (e_Li f)).map AV.fix = xs.map (e_Li f.fix)) ∧
  (∀ (f : Fl) (x : TLight), (e_TLight f x).nrm = e_TLight .o x) ∧
  (∀ (f : Fl) (xs : List TLight), (xs.map (e_TLight f)).map AV.nrm = xs.map (e_TLight .o)) ∧
  (∀ (f : Fl) (x : TLight), (e_TLight f x).als = e_TLight f.als x) ∧
  (∀ (f : Fl) (xs : List TLight), (xs.map (e_TLight f)).map AV.als = xs.map (e_TLight f.als)) ∧
  (∀ (f : Fl) (x : TLight), (e_TLight f x).fix = e_TLight f.fix x) ∧
  (∀ (f : Fl) (xs : List TLight), (xs.map (e_TLight f)).map AV.fix = xs.map (e_TLight f.fix)) :=
  ⟨@e_TFiber_nrm, @e_TFiber_nrmm, @e_TFiber_als, @e_TFiber_alsm, @e_TFiber_fix, @e_TFiber_fixm, @e_TNetwork_nrm, @e_TNetwork_nrmm, @e_TNetwork_als, @e_TNetwork_alsm, @e_TNetwork_fix, @e_TNetwork_fixm, @e_TRoute_nrm, @e_TRoute_nrmm, @e_TRoute_als, @e_TRoute_alsm, @e_TRoute_fix, @e_TRoute_fixm, @e_TBlock_nrm, @e_TBlock_nrmm, @e_TBlock_als, @e_TBlock_alsm, @e_TBlock_fix, @e_TBlock_fixm, @e_TService_nrm, @e_TService_nrmm, @e_TService_als, @e_TService_alsm, @e_TService_fix, @e_TService_fixm, @e_Li_nrm, @e_Li_nrmm, @e_Li_als, @e_Li_alsm, @e_Li_fix, @e_Li_fixm, @e_TLight_nrm, @e_TLight_nrmm, @e_TLight_als, @e_TLight_alsm, @e_TLight_fix, @e_TLight_fixm⟩
theorem VF1 : (∀ (f : Fl) (x : TFiber), (e_TFiber f x).fix = e_TFiber f.fix x) ∧
  (∀ (f : Fl) (xs : List TFiber), (xs.map (e_TFiber f)).map AV.fix = xs.map (e_TFiber f.fix)) ∧
  (∀ (f : Fl) (x : TNetwork), (e_TNetwork f x).fix = e_TNetwork f.fix x) ∧
  (∀ (f : Fl) (xs : List TNetwork), (xs.map (e_TNetwork f)).map AV.fix = xs.map (e_TNetwork f.fix)) ∧
  (∀ (f : Fl) (x : TRoute), (e_TRoute f x).fix = e_TRoute f.fix x) ∧
  (∀ (f : Fl) (xs : List TRoute), (xs.map (e_TRoute f)).map AV.fix = xs.map (e_TRoute f.fix)) ∧
  (∀ (f : Fl) (x : TBlock), (e_TBlock f x).fix = e_TBlock f.fix x) ∧
  (∀ (f : Fl) (xs : List TBlock), (xs.map (e_TBlock f)).map AV.fix = xs.map (e_TBlock f.fix)) ∧
  (∀ (f : Fl) (x : TService), (e_TService f x).fix = e_TService f.fix x) ∧
  (∀ (f : Fl) (xs : List TService), (xs.map (e_TService f)).map AV.fix = xs.map (e_TService f.fix)) ∧
  (∀ (f : Fl) (x : List Int), (e_Li f x).fix = e_Li f.fix x) ∧
  (∀ (f : Fl) (xs : List (List Int)), (xs.map (e_Li f)).map AV.fix = xs.map (e_Li f.fix)) ∧
  (∀ (f : Fl) (x : TLight), (e_TLight f x).fix = e_TLight f.fix x) ∧
  (∀ (f : Fl) (xs : List TLight), (xs.map (e_TLight f)).map AV.fix = xs.map (e_TLight f.fix)) :=
  ⟨@e_TFiber_fix, @e_TFiber_fixm, @e_TNetwork_fix, @e_TNetwork_fixm, @e_TRoute_fix, @e_TRoute_fixm, @e_TBlock_fix, @e_TBlock_fixm, @e_TService_fix, @e_TService_fixm, @e_Li_fix, @e_Li_fixm, @e_TLight_fix, @e_TLight_fixm⟩
theorem VZ1 : (∀ (x : TFiber), (e_TFiber .o x).fz = true) ∧
  (∀ (xs : List TFiber), fzL (xs.map (e_TFiber .o)) = true) ∧
  (∀ (x : TFiber), (e_TFiber .u x).ouB = true) ∧
  (∀ (xs : List TFiber), ouBL (xs.map (e_TFiber .u)) = true) ∧
  (∀ (x : TNetwork), (e_TNetwork .o x).fz = true) ∧
  (∀ (xs : List TNetwork), fzL (xs.map (e_TNetwork .o)) = true) ∧
  (∀ (x : TNetwork), (e_TNetwork .u x).ouB = true) ∧
  (∀ (xs : List TNetwork), ouBL (xs.map (e_TNetwork .u)) = true) ∧
  (∀ (x : TRoute), (e_TRoute .o x).fz = true) ∧
  (∀ (xs : List TRoute), fzL (xs.map (e_TRoute .o)) = true) ∧
  (∀ (x : TRoute), (e_TRoute .u x).ouB = true) ∧
  (∀ (xs : List TRoute), ouBL (xs.map (e_TRoute .u)) = true) ∧
  (∀ (x : TBlock), (e_TBlock .o x).fz = true) ∧
  (∀ (xs : List TBlock), fzL (xs.map (e_TBlock .o)) = true) ∧
  (∀ (x : TBlock), (e_TBlock .u x).ouB = true) ∧
  (∀ (xs : List TBlock), ouBL (xs.map (e_TBlock .u)) = true) ∧
  (∀ (x : TService), (e_TService .o x).fz = true) ∧
  (∀ (xs : List TService), fzL (xs.map (e_TService .o)) = true) ∧
  (∀ (x : TService), (e_TService .u x).ouB = true) ∧
  (∀ (xs : List TService), ouBL (xs.map (e_TService .u)) = true) ∧
  (∀ (x : List Int), (e_Li .o x).fz = true) ∧
  (∀ (xs : List (List Int)), fzL (xs.map (e_Li .o)) = true) ∧
  (∀ (x : List Int), (e_Li .u x).ouB = true) ∧
  (∀ (xs : List (List Int)), ouBL (xs.map (e_Li .u)) = true) ∧
  (∀ (x : TLight), (e_TLight .o x).fz = true) ∧
  (∀ (xs : List TLight), fzL (xs.map (e_TLight .o)) = true) ∧
  (∀ (x : TLight), (e_TLight .u x).ouB = true) ∧
  (∀ (xs : List TLight), ouBL (xs.map (e_TLight .u)) = true) :=
  ⟨@e_TFiber_fz, @e_TFiber_fzm, @e_TFiber_ou, @e_TFiber_oum, @e_TNetwork_fz, @e_TNetwork_fzm, @e_TNetwork_ou, @e_TNetwork_oum, @e_TRoute_fz, @e_TRoute_fzm, @e_TRoute_ou, @e_TRoute_oum, @e_TBlock_fz, @e_TBlock_fzm, @e_TBlock_ou, @e_TBlock_oum, @e_TService_fz, @e_TService_fzm, @e_TService_ou, @e_TService_oum, @e_Li_fz, @e_Li_fzm, @e_Li_ou, @e_Li_oum, @e_TLight_fz, @e_TLight_fzm, @e_TLight_ou, @e_TLight_oum⟩
theorem Zr {α : Type} (n : Nat) (a : α) : (List.replicate n a).length = n := List.length_replicate
theorem ZA {A B : Prop} (a : A) (b : B) : A ∧ B := ⟨a, b⟩
theorem ZF {A : Prop} (a : A) {P Q : Prop} (k : Q) (e : A → P = Q := by intro a; simp only [VS1, VS2, VS3, VS4, VS5, VS6, VT1, VT2, finM_ret, finM_nrm, decide_true, decide_false, List.nodup_nil, List.nodup_cons, oks_p, oks_m, oks_h, ne_eq, not_false_eq_true, Int.reduceEq, Int.reduceNe, true_and, false_and, Nat.reduceSub, Nat.reduceMul, ↓reduceIte, reduceCtorEq, Nat.reduceEqDiff, Nat.reduceAdd, Nat.reduceLeDiff, Int.reduceLE, a]; exact Eq.refl _) : P := (e a).mpr k
theorem ZG {P Q : Prop} (k : Q) (e : P = Q := by simp only [VA, VF1, ↓reduceIte, Nat.reduceEqDiff, Nat.reduceAdd, Nat.reduceMul, Nat.reduceSub, Nat.reduceLeDiff]; exact Eq.refl _) : P := e.mpr k
theorem ZL {A : Prop} (a : A) {B : Prop} (b : B) {P : Prop} (e : A → B → P := by intro a b; (try simp only [VS1, VS2, VS3, VS4, VS5, VS6, VT1, VT2, finM_ret, finM_nrm, decide_true, decide_false, List.nodup_nil, List.nodup_cons, oks_p, oks_m, oks_h, ne_eq, not_false_eq_true, Int.reduceEq, Int.reduceNe, true_and, false_and, Nat.reduceSub, Nat.reduceMul, ↓reduceIte, reduceCtorEq, Nat.reduceEqDiff, Nat.reduceAdd, Nat.reduceLeDiff, Int.reduceLE, a]); all_goals simp [qL, qJ, qJ0, qS, qX, qR, qM, Shp, sub, tupd, finM_ret, finM_nrm, VS1, VS2, VS3, VS4, VS5, VS6, VT1, VT2, b]) : P := e a b
theorem ZK {B : Prop} (b : B) {P : Prop} (e : B → P := by intro b; simp [qL, qJ, qJ0, qS, qX, qR, qM, Shp, sub, tupd, finM_ret, finM_nrm, VS1, VS2, VS3, VS4, VS5, VS6, VT1, VT2, b]) : P := e b
theorem ZS {A : Prop} (a : A) {W : Prop} (w : W) {ok : Oks} {ρ : Nat → Option Row} {d f : Nat} {args : List AV} {K : AV → List (Nat × Row) → Prop} {v : Value} (hk : K (.sc v) [])
    (e : A → W → ok.p f (args.map (snp ρ 4)) (.sc v) := by intro a w; simp only [VS1, VS2, VS3, VS4, VS5, VS6, VT1, VT2, finM_ret, finM_nrm, decide_true, decide_false, List.nodup_nil, List.nodup_cons, oks_p, oks_m, oks_h, ne_eq, not_false_eq_true, Int.reduceEq, Int.reduceNe, true_and, false_and, Nat.reduceSub, Nat.reduceMul, ↓reduceIte, reduceCtorEq, Nat.reduceEqDiff, Nat.reduceAdd, Nat.reduceLeDiff, Int.reduceLE, a]; exact w) : callA ok ρ d f args K := call_s (e a w) hk
theorem ZU {A : Prop} (a : A) {W : Prop} (w : W) {ok : Oks} {ρ : Nat → Option Row} {d f : Nat} {args : List AV} {K : AV → List (Nat × Row) → Prop} {res : AV} (hk : K (adopt 4 d res).1 (adopt 4 d res).2.1)
    (e : A → W → ok.p f (args.map (snp ρ 4)) res := by intro a w; simp only [VS1, VS2, VS3, VS4, VS5, VS6, VT1, VT2, finM_ret, finM_nrm, decide_true, decide_false, List.nodup_nil, List.nodup_cons, oks_p, oks_m, oks_h, ne_eq, not_false_eq_true, Int.reduceEq, Int.reduceNe, true_and, false_and, Nat.reduceSub, Nat.reduceMul, ↓reduceIte, reduceCtorEq, Nat.reduceEqDiff, Nat.reduceAdd, Nat.reduceLeDiff, Int.reduceLE, a]; exact w) (hu : res.allU := by simp [AV.allU, allUL, allUL_iff, VT1, VT2]) (hn : ∀ p ∈ (adopt 4 d res).2.1, ρ p.1 = none ∧ p.1 < 1000000000 := by simp only [VS1, VS2, VS3, VS4, VS5, VS6, VT1, VT2, finM_ret, finM_nrm, decide_true, decide_false, List.nodup_nil, List.nodup_cons, oks_p, oks_m, oks_h, ne_eq, not_false_eq_true, Int.reduceEq, Int.reduceNe, true_and, false_and, Nat.reduceSub, Nat.reduceMul, ↓reduceIte, reduceCtorEq, Nat.reduceEqDiff, Nat.reduceAdd, Nat.reduceLeDiff, Int.reduceLE, Nat.reduceLT]) : callA ok ρ d f args K := call_u (e a w) hu hn hk
theorem ZQ {P : Prop} (e : P := by simp [VS1, VS2, VS3, VS4, VS5, VS6, VT1, VT2]) : P := e
theorem ZW {A : Prop} (a : A) {W : Prop} (w : W) {ok : Oks} {ρ : Nat → Option Row} {d f : Nat} {args : List AV} {rs : List Nat} {K : AV → List (Nat × Row) → Prop} {res : AV} {outs : List (Nat × Row)}
    (e : A → W → ok.m f (args.map (AV.rg (cnm rs))) (rs.map (rowIn ρ rs)) res outs := by intro a w; simp only [VS1, VS2, VS3, VS4, VS5, VS6, VT1, VT2, finM_ret, finM_nrm, decide_true, decide_false, List.nodup_nil, List.nodup_cons, oks_p, oks_m, oks_h, ne_eq, not_false_eq_true, Int.reduceEq, Int.reduceNe, true_and, false_and, Nat.reduceSub, Nat.reduceMul, ↓reduceIte, reduceCtorEq, Nat.reduceEqDiff, Nat.reduceAdd, Nat.reduceLeDiff, Int.reduceLE, a]; first | exact w | (simp only [VS1, VS2, VS3, VS4, VS5, VS6, VT1, VT2, finM_ret, finM_nrm, decide_true, decide_false, List.nodup_nil, List.nodup_cons, oks_p, oks_m, oks_h, ne_eq, not_false_eq_true, Int.reduceEq, Int.reduceNe, true_and, false_and, Nat.reduceSub, Nat.reduceMul, ↓reduceIte, reduceCtorEq, Nat.reduceEqDiff, Nat.reduceAdd, Nat.reduceLeDiff, Int.reduceLE, a] at w; exact w))
    (h1 : rs.Nodup ∧ (∀ r ∈ rs, isLive (ρ r)) ∧ (∀ r ∈ rs, ∀ q ∈ oments (ρ r), q ∈ rs) ∧ (∀ r ∈ mentsL args, r ∈ rs) := by simp [VS1, VS2, VS3, VS4, VS5, VS6, VT1, VT2])
    (h2 : (outs.map fun p => bkn d rs p.1).Nodup ∧ (∀ p ∈ outs, 1000000000 ≤ p.1 → p.1 - 1000000000 < rs.length) ∧ (∀ p ∈ outs, p.1 < 1000000000 → ρ (bkn d rs p.1) = none ∧ bkn d rs p.1 < 1000000000))
    (hk : K (res.rg (bkn d rs)) (gone rs ++ outs.map (rowBk d rs))) : callM ok ρ d f args rs K := call_m (e a w) h1 h2 hk
def S_laws_szStringSL1 (aZ0 : List ByteArray) (v : Int × Int) : St := ⟨[(0, .lst .o 1 (aZ0.map AV.z)), (1, .i v.1), (5, .i v.2)], []⟩
def SX_laws_szStringSL1 (v : Int) : St := ⟨[(1, .i v)], []⟩
theorem w_laws_szStringSL1 (aZ0 : List ByteArray) (sZ2 : Int × Int) (o : (Int × Int) ⊕ (Int ⊕ Int)) (h : M_laws_szStringSL1 aZ0 sZ2 = some o) : AWP (OkS Tryz.prog) A43L1 (qL [0, 1, 5] [] (S_laws_szStringSL1 aZ0) (qS (qX 0 [1] [] (SX_laws_szStringSL1)) (qR V43 (fun r => .i r))) o) (S_laws_szStringSL1 aZ0 sZ2) := by
  unfold M_laws_szStringSL1 at h
  simp only [ZC, S_laws_szStringSL1, A43L1]
  obtain ⟨cZ3, h⟩ | ⟨cZ3, h⟩ := cond_s h
  · obtain ⟨yZ4, hyZ4, h⟩ := bind_s h
    obtain ⟨hyZ4a, hyZ4b⟩ := geti_s hyZ4
    obtain ⟨cZ5, h⟩ | ⟨cZ5, h⟩ := cond_s h
    · cases h
      exact ZL (ZA cZ3 (ZA hyZ4a (ZA hyZ4b cZ5))) V43.eq_1
    · cases h
      exact ZL (ZA cZ3 (ZA hyZ4a (ZA hyZ4b cZ5))) (ZA S_laws_szStringSL1.eq_1 SX_laws_szStringSL1.eq_1)
  · cases h
    exact ZL cZ3 (ZA S_laws_szStringSL1.eq_1 SX_laws_szStringSL1.eq_1)
theorem w_laws_szStringS (aZ0 : List ByteArray) (leftZ0 : Int) {r : Int} (h : M_laws_szStringS aZ0 leftZ0 = some r) : Ok Tryz.prog 43 [.lst .o 1 (aZ0.map AV.z), .i leftZ0] ((fun r => .i r) r) := by
  refine ok_of_body hmix m43 rfl ?_
  unfold M_laws_szStringS at h
  simp only [ZC, A43, V43, body_eq]
  obtain ⟨cZ1, h⟩ | ⟨cZ1, h⟩ := cond_s h
  · cases h
    exact ZL cZ1 V43.eq_1
  · obtain ⟨oZ6, hoZ6, h⟩ := bind_s h
    try refine ZF cZ1 ?_
    refine join_rule (o := oZ6) (blk_rule sideR (loop_rule (w_laws_szStringSL1 aZ0) hoZ6 ?_)) (fun vZ7 hv => ?_) (fun xZ8 hv e τ hne hq => ?_)
    · exact ZK (ZA S_laws_szStringSL1.eq_1 SX_laws_szStringSL1.eq_1)
    · subst hv
      simp only [] at h
      simp only [ZC, SX_laws_szStringSL1, A43R2]
      cases h
      exact ZL cZ1 V43.eq_1
    · subst hv
      simp only [] at h
      obtain ⟨rfl, qZ9⟩ := hq
      cases h
      exact qZ9
theorem w_laws_szFiberS (aZ0 : List TFiber) (leftZ0 : Int) {r : Int} (h : M_laws_szFiberS aZ0 leftZ0 = some r) : Ok Tryz.prog 44 [.lst .o 4 (aZ0.map (e_TFiber .o)), .i leftZ0] ((fun r => .i r) r) := by
  refine ok_of_body hmix m44 rfl ?_
  unfold M_laws_szFiberS at h
  simp only [ZC, A44, V44, body_eq]
  obtain ⟨cZ1, h⟩ | ⟨cZ1, h⟩ := cond_s h
  · cases h
    exact ZL cZ1 V44.eq_1
  · cases h
    exact ZL cZ1 V44.eq_1
theorem w_laws_szNetwork (aZ0 : TNetwork) (leftZ0 : Int) {r : Int} (h : M_laws_szNetwork aZ0 leftZ0 = some r) : Ok Tryz.prog 12 [.agg [.lst .o 1 (aZ0.Nodes.map AV.z), .lst .o 4 (aZ0.Fibers.map (e_TFiber .o))], .i leftZ0] ((fun r => .i r) r) := by
  refine ok_of_body hmix m12 rfl ?_
  unfold M_laws_szNetwork at h
  simp only [ZC, A12, V12, body_eq]
  obtain ⟨rZ1, hrZ1, h⟩ := bind_s h
  refine ZF trivial ?_
  refine ZS trivial (w_laws_szStringS _ _ hrZ1) ?_
  refine ZG ?_
  obtain ⟨cZ2, h⟩ | ⟨cZ2, h⟩ := cond_s h
  · cases h
    exact ZL cZ2 V12.eq_1
  · obtain ⟨rZ3, hrZ3, h⟩ := bind_s h
    refine ZF cZ2 ?_
    refine ZS cZ2 (w_laws_szFiberS _ _ hrZ3) ?_
    refine ZG ?_
    obtain ⟨cZ4, h⟩ | ⟨cZ4, h⟩ := cond_s h
    · cases h
      exact ZL (ZA cZ2 cZ4) V12.eq_1
    · cases h
      exact ZL (ZA cZ2 cZ4) V12.eq_1
theorem w_laws_szIntS (aZ0 : List Int) (leftZ0 : Int) {r : Int} (h : M_laws_szIntS aZ0 leftZ0 = some r) : Ok Tryz.prog 119 [.lst .o 1 (aZ0.map AV.i), .i leftZ0] ((fun r => .i r) r) := by
  refine ok_of_body hmix m119 rfl ?_
  unfold M_laws_szIntS at h
  simp only [ZC, A119, V119, body_eq]
  obtain ⟨cZ1, h⟩ | ⟨cZ1, h⟩ := cond_s h
  · cases h
    exact ZL cZ1 V119.eq_1
  · cases h
    exact ZL cZ1 V119.eq_1
theorem w_laws_szRoute (aZ0 : TRoute) (leftZ0 : Int) {r : Int} (h : M_laws_szRoute aZ0 leftZ0 = some r) : Ok Tryz.prog 87 [.agg [.i aZ0.Start, .lst .o 1 (aZ0.Fibers.map AV.i)], .i leftZ0] ((fun r => .i r) r) := by
  refine ok_of_body hmix m87 rfl ?_
  unfold M_laws_szRoute at h
  simp only [ZC, A87, V87, body_eq]
  obtain ⟨rZ1, hrZ1, h⟩ := bind_s h
  refine ZF trivial ?_
  refine ZS trivial (w_laws_szIntS _ _ hrZ1) ?_
  refine ZG ?_
  obtain ⟨cZ2, h⟩ | ⟨cZ2, h⟩ := cond_s h
  · cases h
    exact ZL cZ2 V87.eq_1
  · cases h
    exact ZL cZ2 V87.eq_1
theorem w_laws_szService (aZ0 : TService) (leftZ0 : Int) {r : Int} (h : M_laws_szService aZ0 leftZ0 = some r) : Ok Tryz.prog 45 [.agg [.i aZ0.Id, .i aZ0.Class, .i aZ0.Work.Start, .lst .o 1 (aZ0.Work.Fibers.map AV.i), .i aZ0.WorkBlock.First, .i aZ0.WorkBlock.Count, .i aZ0.Spare.Start, .lst .o 1 (aZ0.Spare.Fibers.map AV.i), .i aZ0.SpareBlock.First, .i aZ0.SpareBlock.Count], .i leftZ0] ((fun r => .i r) r) := by
  refine ok_of_body hmix m45 rfl ?_
  unfold M_laws_szService at h
  simp only [ZC, A45, V45, body_eq]
  obtain ⟨rZ1, hrZ1, h⟩ := bind_s h
  refine ZF trivial ?_
  refine ZS trivial (w_laws_szRoute _ _ hrZ1) ?_
  refine ZG ?_
  obtain ⟨cZ2, h⟩ | ⟨cZ2, h⟩ := cond_s h
  · cases h
    exact ZL cZ2 V45.eq_1
  · obtain ⟨rZ3, hrZ3, h⟩ := bind_s h
    refine ZF cZ2 ?_
    refine ZS cZ2 (w_laws_szRoute _ _ hrZ3) ?_
    refine ZG ?_
    obtain ⟨cZ4, h⟩ | ⟨cZ4, h⟩ := cond_s h
    · cases h
      exact ZL (ZA cZ2 cZ4) V45.eq_1
    · cases h
      exact ZL (ZA cZ2 cZ4) V45.eq_1
def S_laws_szServiceSL1 (aZ0 : List TService) (v : Int × Int) : St := ⟨[(0, .lst .o 10 (aZ0.map (e_TService .o))), (1, .i v.1), (5, .i v.2)], []⟩
def SX_laws_szServiceSL1 (v : Int) : St := ⟨[(1, .i v)], []⟩
theorem w_laws_szServiceSL1 (aZ0 : List TService) (sZ2 : Int × Int) (o : (Int × Int) ⊕ (Int ⊕ Int)) (h : M_laws_szServiceSL1 aZ0 sZ2 = some o) : AWP (OkS Tryz.prog) A13L1 (qL [0, 1, 5] [] (S_laws_szServiceSL1 aZ0) (qS (qX 0 [1] [] (SX_laws_szServiceSL1)) (qR V13 (fun r => .i r))) o) (S_laws_szServiceSL1 aZ0 sZ2) := by
  unfold M_laws_szServiceSL1 at h
  simp only [ZC, S_laws_szServiceSL1, A13L1]
  obtain ⟨cZ3, h⟩ | ⟨cZ3, h⟩ := cond_s h
  · obtain ⟨yZ4, hyZ4, h⟩ := bind_s h
    obtain ⟨hyZ4a, hyZ4b⟩ := geti_s hyZ4
    obtain ⟨rZ5, hrZ5, h⟩ := bind_s h
    refine ZF (ZA cZ3 (ZA hyZ4a hyZ4b)) ?_
    refine ZS (ZA cZ3 (ZA hyZ4a hyZ4b)) (w_laws_szService _ _ hrZ5) ?_
    refine ZG ?_
    obtain ⟨cZ6, h⟩ | ⟨cZ6, h⟩ := cond_s h
    · cases h
      exact ZL (ZA cZ3 (ZA hyZ4a (ZA hyZ4b cZ6))) V13.eq_1
    · cases h
      exact ZL (ZA cZ3 (ZA hyZ4a (ZA hyZ4b cZ6))) (ZA S_laws_szServiceSL1.eq_1 SX_laws_szServiceSL1.eq_1)
  · cases h
    exact ZL cZ3 (ZA S_laws_szServiceSL1.eq_1 SX_laws_szServiceSL1.eq_1)
theorem w_laws_szServiceS (aZ0 : List TService) (leftZ0 : Int) {r : Int} (h : M_laws_szServiceS aZ0 leftZ0 = some r) : Ok Tryz.prog 13 [.lst .o 10 (aZ0.map (e_TService .o)), .i leftZ0] ((fun r => .i r) r) := by
  refine ok_of_body hmix m13 rfl ?_
  unfold M_laws_szServiceS at h
  simp only [ZC, A13, V13, body_eq]
  obtain ⟨cZ1, h⟩ | ⟨cZ1, h⟩ := cond_s h
  · cases h
    exact ZL cZ1 V13.eq_1
  · obtain ⟨oZ7, hoZ7, h⟩ := bind_s h
    try refine ZF cZ1 ?_
    refine join_rule (o := oZ7) (blk_rule sideR (loop_rule (w_laws_szServiceSL1 aZ0) hoZ7 ?_)) (fun vZ8 hv => ?_) (fun xZ9 hv e τ hne hq => ?_)
    · exact ZK (ZA S_laws_szServiceSL1.eq_1 SX_laws_szServiceSL1.eq_1)
    · subst hv
      simp only [] at h
      simp only [ZC, SX_laws_szServiceSL1, A13R2]
      cases h
      exact ZL cZ1 V13.eq_1
    · subst hv
      simp only [] at h
      obtain ⟨rfl, qZ10⟩ := hq
      cases h
      exact qZ10
def S_laws_toStringSL1 (aZ0 : List ByteArray) (v : Int × List ByteArray) : St := ⟨[(0, .lst .o 1 (aZ0.map AV.z)), (3, .sl 3 0 v.2.length), (4, .i v.1)], [(3, .arr 1 (v.2.map AV.z))]⟩
def SX_laws_toStringSL1 (v : List ByteArray) : St := ⟨[(3, .sl 3 0 v.length)], [(3, .arr 1 (v.map AV.z))]⟩
theorem w_laws_toStringSL1 (aZ0 : List ByteArray) (sZ4 : Int × List ByteArray) (o : (Int × List ByteArray) ⊕ (List ByteArray)) (h : M_laws_toStringSL1 aZ0 sZ4 = some o) : AWP (OkS Tryz.prog) A48L1 (qL [0, 3, 4] [3] (S_laws_toStringSL1 aZ0) (qX 0 [3] [3] (SX_laws_toStringSL1)) o) (S_laws_toStringSL1 aZ0 sZ4) := by
  unfold M_laws_toStringSL1 at h
  simp only [ZC, S_laws_toStringSL1, A48L1]
  obtain ⟨cZ5, h⟩ | ⟨cZ5, h⟩ := cond_s h
  · obtain ⟨yZ6, hyZ6, h⟩ := bind_s h
    obtain ⟨hyZ6a, hyZ6b⟩ := geti_s hyZ6
    obtain ⟨kZ7, hkZ7, h⟩ := bind_s h
    obtain ⟨hkZ7a, hkZ7b⟩ := grd_s hkZ7
    obtain ⟨yZ8, hyZ8, h⟩ := bind_s h
    obtain ⟨lZ9, hlZ9, h⟩ := bnd_s h
    have eZ10 : (sZ4.2.map AV.z).set (Int.toNat sZ4.1) (.z yZ6) = lZ9.map AV.z := by rw [← hlZ9, List.map_set]
    cases h
    exact ZL (ZA cZ5 (ZA hyZ6a (ZA hyZ6b (ZA hkZ7a (ZA hkZ7b (ZA hyZ8 eZ10)))))) (ZA S_laws_toStringSL1.eq_1 (ZA SX_laws_toStringSL1.eq_1 hlZ9.symm))
  · cases h
    exact ZL cZ5 (ZA S_laws_toStringSL1.eq_1 SX_laws_toStringSL1.eq_1)
theorem w_laws_toStringS (aZ0 : List ByteArray) {r : List ByteArray} (h : M_laws_toStringS aZ0 = some r) : Ok Tryz.prog 48 [.lst .o 1 (aZ0.map AV.z)] ((fun r => .lst .u 1 (r.map AV.z)) r) := by
  refine ok_of_body hmix m48 rfl ?_
  unfold M_laws_toStringS at h
  simp only [ZC, A48, V48, body_eq]
  obtain ⟨uZ1, huZ1, h⟩ := bind_s h
  obtain ⟨huZ11, huZ12, huZ13, huZ14⟩ := grd_s huZ1
  obtain ⟨lZ2, hlZ2, h⟩ := bnd_s h
  have eZ3 : List.replicate (Int.toNat (aZ0.length : Int)) (.z (⟨#[]⟩ : ByteArray) : AV) = lZ2.map AV.z := by rw [← hlZ2, List.map_replicate]
  obtain ⟨oZ11, hoZ11, h⟩ := bind_s h
  try refine ZF (ZA huZ11 (ZA huZ12 (ZA huZ13 (ZA huZ14 eZ3)))) ?_
  refine join_rule0 (blk_rule0 (loop_rule (w_laws_toStringSL1 aZ0) hoZ11 ?_)) ?_
  · exact ZK (ZA S_laws_toStringSL1.eq_1 (ZA SX_laws_toStringSL1.eq_1 (ZA hlZ2.symm @Zr)))
  · simp only [ZC, SX_laws_toStringSL1, A48R2]
    cases h
    exact ZL (ZA huZ11 (ZA huZ12 (ZA huZ13 (ZA huZ14 eZ3)))) V48.eq_1
theorem w_laws_toFiber (aZ0 : TFiber) {r : TFiber} (h : M_laws_toFiber aZ0 = some r) : Ok Tryz.prog 91 [.agg [.i aZ0.A, .i aZ0.B, .i aZ0.Length, .i aZ0.Risk]] ((fun r => .agg [.i r.A, .i r.B, .i r.Length, .i r.Risk]) r) := by
  refine ok_of_body hmix m91 rfl ?_
  unfold M_laws_toFiber at h
  simp only [ZC, A91, V91, body_eq]
  cases h
  exact ZL trivial V91.eq_1
def S_laws_toFiberSL1 (aZ0 : List TFiber) (v : Int × List TFiber) : St := ⟨[(0, .lst .o 4 (aZ0.map (e_TFiber .o))), (3, .sl 3 0 v.2.length), (4, .i v.1)], [(3, .arr 4 (v.2.map (e_TFiber .u)))]⟩
def SX_laws_toFiberSL1 (v : List TFiber) : St := ⟨[(3, .sl 3 0 v.length)], [(3, .arr 4 (v.map (e_TFiber .u)))]⟩
theorem w_laws_toFiberSL1 (aZ0 : List TFiber) (sZ4 : Int × List TFiber) (o : (Int × List TFiber) ⊕ (List TFiber)) (h : M_laws_toFiberSL1 aZ0 sZ4 = some o) : AWP (OkS Tryz.prog) A49L1 (qL [0, 3, 4] [3] (S_laws_toFiberSL1 aZ0) (qX 0 [3] [3] (SX_laws_toFiberSL1)) o) (S_laws_toFiberSL1 aZ0 sZ4) := by
  unfold M_laws_toFiberSL1 at h
  simp only [ZC, S_laws_toFiberSL1, A49L1]
  obtain ⟨cZ5, h⟩ | ⟨cZ5, h⟩ := cond_s h
  · obtain ⟨yZ6, hyZ6, h⟩ := bind_s h
    obtain ⟨hyZ6a, hyZ6b⟩ := geti_s hyZ6
    obtain ⟨rZ7, hrZ7, h⟩ := bind_s h
    refine ZF (ZA cZ5 (ZA hyZ6a hyZ6b)) ?_
    refine ZU (ZA cZ5 (ZA hyZ6a hyZ6b)) (w_laws_toFiber _ hrZ7) ?_
    refine ZG ?_
    obtain ⟨kZ8, hkZ8, h⟩ := bind_s h
    obtain ⟨hkZ8a, hkZ8b⟩ := grd_s hkZ8
    obtain ⟨yZ9, hyZ9, h⟩ := bind_s h
    obtain ⟨lZ10, hlZ10, h⟩ := bnd_s h
    have eZ11 : (sZ4.2.map (e_TFiber .u)).set (Int.toNat sZ4.1) (.agg [.i rZ7.A, .i rZ7.B, .i rZ7.Length, .i rZ7.Risk]) = lZ10.map (e_TFiber .u) := by rw [← hlZ10, List.map_set]; rfl
    cases h
    exact ZL (ZA cZ5 (ZA hyZ6a (ZA hyZ6b (ZA hkZ8a (ZA hkZ8b (ZA hyZ9 eZ11)))))) (ZA S_laws_toFiberSL1.eq_1 (ZA SX_laws_toFiberSL1.eq_1 hlZ10.symm))
  · cases h
    exact ZL cZ5 (ZA S_laws_toFiberSL1.eq_1 SX_laws_toFiberSL1.eq_1)
theorem w_laws_toFiberS (aZ0 : List TFiber) {r : List TFiber} (h : M_laws_toFiberS aZ0 = some r) : Ok Tryz.prog 49 [.lst .o 4 (aZ0.map (e_TFiber .o))] ((fun r => .lst .u 4 (r.map (e_TFiber .u))) r) := by
  refine ok_of_body hmix m49 rfl ?_
  unfold M_laws_toFiberS at h
  simp only [ZC, A49, V49, body_eq]
  obtain ⟨uZ1, huZ1, h⟩ := bind_s h
  obtain ⟨huZ11, huZ12, huZ13, huZ14⟩ := grd_s huZ1
  obtain ⟨lZ2, hlZ2, h⟩ := bnd_s h
  have eZ3 : List.replicate (Int.toNat (aZ0.length : Int)) (.agg [.i 0, .i 0, .i 0, .i 0] : AV) = lZ2.map (e_TFiber .u) := by rw [← hlZ2, List.map_replicate]; rfl
  obtain ⟨oZ12, hoZ12, h⟩ := bind_s h
  try refine ZF (ZA huZ11 (ZA huZ12 (ZA huZ13 (ZA huZ14 eZ3)))) ?_
  refine join_rule0 (blk_rule0 (loop_rule (w_laws_toFiberSL1 aZ0) hoZ12 ?_)) ?_
  · exact ZK (ZA S_laws_toFiberSL1.eq_1 (ZA SX_laws_toFiberSL1.eq_1 (ZA hlZ2.symm @Zr)))
  · simp only [ZC, SX_laws_toFiberSL1, A49R2]
    cases h
    exact ZL (ZA huZ11 (ZA huZ12 (ZA huZ13 (ZA huZ14 eZ3)))) V49.eq_1
theorem w_laws_toNetwork (aZ0 : TNetwork) {r : TNetwork} (h : M_laws_toNetwork aZ0 = some r) : Ok Tryz.prog 15 [.agg [.lst .o 1 (aZ0.Nodes.map AV.z), .lst .o 4 (aZ0.Fibers.map (e_TFiber .o))]] ((fun r => .agg [.lst .u 1 (r.Nodes.map AV.z), .lst .u 4 (r.Fibers.map (e_TFiber .u))]) r) := by
  refine ok_of_body hmix m15 rfl ?_
  unfold M_laws_toNetwork at h
  simp only [ZC, A15, V15, body_eq]
  obtain ⟨rZ1, hrZ1, h⟩ := bind_s h
  refine ZF trivial ?_
  refine ZU trivial (w_laws_toStringS _ hrZ1) ?_
  refine ZG ?_
  obtain ⟨rZ2, hrZ2, h⟩ := bind_s h
  refine ZF trivial ?_
  refine ZU trivial (w_laws_toFiberS _ hrZ2) ?_
  refine ZG ?_
  cases h
  exact ZL trivial V15.eq_1
def S_laws_toIntSL1 (aZ0 : List Int) (v : Int × List Int) : St := ⟨[(0, .lst .o 1 (aZ0.map AV.i)), (3, .sl 3 0 v.2.length), (4, .i v.1)], [(3, .arr 1 (v.2.map AV.i))]⟩
def SX_laws_toIntSL1 (v : List Int) : St := ⟨[(3, .sl 3 0 v.length)], [(3, .arr 1 (v.map AV.i))]⟩
theorem w_laws_toIntSL1 (aZ0 : List Int) (sZ4 : Int × List Int) (o : (Int × List Int) ⊕ (List Int)) (h : M_laws_toIntSL1 aZ0 sZ4 = some o) : AWP (OkS Tryz.prog) A26L1 (qL [0, 3, 4] [3] (S_laws_toIntSL1 aZ0) (qX 0 [3] [3] (SX_laws_toIntSL1)) o) (S_laws_toIntSL1 aZ0 sZ4) := by
  unfold M_laws_toIntSL1 at h
  simp only [ZC, S_laws_toIntSL1, A26L1]
  obtain ⟨cZ5, h⟩ | ⟨cZ5, h⟩ := cond_s h
  · obtain ⟨yZ6, hyZ6, h⟩ := bind_s h
    obtain ⟨hyZ6a, hyZ6b⟩ := geti_s hyZ6
    obtain ⟨kZ7, hkZ7, h⟩ := bind_s h
    obtain ⟨hkZ7a, hkZ7b⟩ := grd_s hkZ7
    obtain ⟨yZ8, hyZ8, h⟩ := bind_s h
    obtain ⟨lZ9, hlZ9, h⟩ := bnd_s h
    have eZ10 : (sZ4.2.map AV.i).set (Int.toNat sZ4.1) (.i yZ6) = lZ9.map AV.i := by rw [← hlZ9, List.map_set]
    cases h
    exact ZL (ZA cZ5 (ZA hyZ6a (ZA hyZ6b (ZA hkZ7a (ZA hkZ7b (ZA hyZ8 eZ10)))))) (ZA S_laws_toIntSL1.eq_1 (ZA SX_laws_toIntSL1.eq_1 hlZ9.symm))
  · cases h
    exact ZL cZ5 (ZA S_laws_toIntSL1.eq_1 SX_laws_toIntSL1.eq_1)
theorem w_laws_toIntS (aZ0 : List Int) {r : List Int} (h : M_laws_toIntS aZ0 = some r) : Ok Tryz.prog 26 [.lst .o 1 (aZ0.map AV.i)] ((fun r => .lst .u 1 (r.map AV.i)) r) := by
  refine ok_of_body hmix m26 rfl ?_
  unfold M_laws_toIntS at h
  simp only [ZC, A26, V26, body_eq]
  obtain ⟨uZ1, huZ1, h⟩ := bind_s h
  obtain ⟨huZ11, huZ12, huZ13, huZ14⟩ := grd_s huZ1
  obtain ⟨lZ2, hlZ2, h⟩ := bnd_s h
  have eZ3 : List.replicate (Int.toNat (aZ0.length : Int)) (.i 0 : AV) = lZ2.map AV.i := by rw [← hlZ2, List.map_replicate]
  obtain ⟨oZ11, hoZ11, h⟩ := bind_s h
  try refine ZF (ZA huZ11 (ZA huZ12 (ZA huZ13 (ZA huZ14 eZ3)))) ?_
  refine join_rule0 (blk_rule0 (loop_rule (w_laws_toIntSL1 aZ0) hoZ11 ?_)) ?_
  · exact ZK (ZA S_laws_toIntSL1.eq_1 (ZA SX_laws_toIntSL1.eq_1 (ZA hlZ2.symm @Zr)))
  · simp only [ZC, SX_laws_toIntSL1, A26R2]
    cases h
    exact ZL (ZA huZ11 (ZA huZ12 (ZA huZ13 (ZA huZ14 eZ3)))) V26.eq_1
theorem w_laws_toRoute (aZ0 : TRoute) {r : TRoute} (h : M_laws_toRoute aZ0 = some r) : Ok Tryz.prog 92 [.agg [.i aZ0.Start, .lst .o 1 (aZ0.Fibers.map AV.i)]] ((fun r => .agg [.i r.Start, .lst .u 1 (r.Fibers.map AV.i)]) r) := by
  refine ok_of_body hmix m92 rfl ?_
  unfold M_laws_toRoute at h
  simp only [ZC, A92, V92, body_eq]
  obtain ⟨rZ1, hrZ1, h⟩ := bind_s h
  refine ZF trivial ?_
  refine ZU trivial (w_laws_toIntS _ hrZ1) ?_
  refine ZG ?_
  cases h
  exact ZL trivial V92.eq_1
theorem w_laws_toBlock (aZ0 : TBlock) {r : TBlock} (h : M_laws_toBlock aZ0 = some r) : Ok Tryz.prog 93 [.agg [.i aZ0.First, .i aZ0.Count]] ((fun r => .agg [.i r.First, .i r.Count]) r) := by
  refine ok_of_body hmix m93 rfl ?_
  unfold M_laws_toBlock at h
  simp only [ZC, A93, V93, body_eq]
  cases h
  exact ZL trivial V93.eq_1
theorem w_laws_toService (aZ0 : TService) {r : TService} (h : M_laws_toService aZ0 = some r) : Ok Tryz.prog 50 [.agg [.i aZ0.Id, .i aZ0.Class, .i aZ0.Work.Start, .lst .o 1 (aZ0.Work.Fibers.map AV.i), .i aZ0.WorkBlock.First, .i aZ0.WorkBlock.Count, .i aZ0.Spare.Start, .lst .o 1 (aZ0.Spare.Fibers.map AV.i), .i aZ0.SpareBlock.First, .i aZ0.SpareBlock.Count]] ((fun r => .agg [.i r.Id, .i r.Class, .i r.Work.Start, .lst .u 1 (r.Work.Fibers.map AV.i), .i r.WorkBlock.First, .i r.WorkBlock.Count, .i r.Spare.Start, .lst .u 1 (r.Spare.Fibers.map AV.i), .i r.SpareBlock.First, .i r.SpareBlock.Count]) r) := by
  refine ok_of_body hmix m50 rfl ?_
  unfold M_laws_toService at h
  simp only [ZC, A50, V50, body_eq]
  obtain ⟨rZ1, hrZ1, h⟩ := bind_s h
  refine ZF trivial ?_
  refine ZU trivial (w_laws_toRoute _ hrZ1) ?_
  refine ZG ?_
  obtain ⟨rZ2, hrZ2, h⟩ := bind_s h
  refine ZF trivial ?_
  refine ZU trivial (w_laws_toBlock _ hrZ2) ?_
  refine ZG ?_
  obtain ⟨rZ3, hrZ3, h⟩ := bind_s h
  refine ZF trivial ?_
  refine ZU trivial (w_laws_toRoute _ hrZ3) ?_
  refine ZG ?_
  obtain ⟨rZ4, hrZ4, h⟩ := bind_s h
  refine ZF trivial ?_
  refine ZU trivial (w_laws_toBlock _ hrZ4) ?_
  refine ZG ?_
  cases h
  exact ZL trivial V50.eq_1
def S_laws_toServiceSL1 (aZ0 : List TService) (v : Int × List TService) : St := ⟨[(0, .lst .o 10 (aZ0.map (e_TService .o))), (3, .sl 3 0 v.2.length), (4, .i v.1)], [(3, .arr 10 (v.2.map (e_TService .u)))]⟩
def SX_laws_toServiceSL1 (v : List TService) : St := ⟨[(3, .sl 3 0 v.length)], [(3, .arr 10 (v.map (e_TService .u)))]⟩
theorem w_laws_toServiceSL1 (aZ0 : List TService) (sZ4 : Int × List TService) (o : (Int × List TService) ⊕ (List TService)) (h : M_laws_toServiceSL1 aZ0 sZ4 = some o) : AWP (OkS Tryz.prog) A16L1 (qL [0, 3, 4] [3] (S_laws_toServiceSL1 aZ0) (qX 0 [3] [3] (SX_laws_toServiceSL1)) o) (S_laws_toServiceSL1 aZ0 sZ4) := by
  unfold M_laws_toServiceSL1 at h
  simp only [ZC, S_laws_toServiceSL1, A16L1]
  obtain ⟨cZ5, h⟩ | ⟨cZ5, h⟩ := cond_s h
  · obtain ⟨yZ6, hyZ6, h⟩ := bind_s h
    obtain ⟨hyZ6a, hyZ6b⟩ := geti_s hyZ6
    obtain ⟨rZ7, hrZ7, h⟩ := bind_s h
    refine ZF (ZA cZ5 (ZA hyZ6a hyZ6b)) ?_
    refine ZU (ZA cZ5 (ZA hyZ6a hyZ6b)) (w_laws_toService _ hrZ7) ?_
    refine ZG ?_
    obtain ⟨kZ8, hkZ8, h⟩ := bind_s h
    obtain ⟨hkZ8a, hkZ8b⟩ := grd_s hkZ8
    obtain ⟨yZ9, hyZ9, h⟩ := bind_s h
    obtain ⟨lZ10, hlZ10, h⟩ := bnd_s h
    have eZ11 : (sZ4.2.map (e_TService .u)).set (Int.toNat sZ4.1) (.agg [.i rZ7.Id, .i rZ7.Class, .i rZ7.Work.Start, .lst .u 1 (rZ7.Work.Fibers.map AV.i), .i rZ7.WorkBlock.First, .i rZ7.WorkBlock.Count, .i rZ7.Spare.Start, .lst .u 1 (rZ7.Spare.Fibers.map AV.i), .i rZ7.SpareBlock.First, .i rZ7.SpareBlock.Count]) = lZ10.map (e_TService .u) := by rw [← hlZ10, List.map_set]; rfl
    cases h
    exact ZL (ZA cZ5 (ZA hyZ6a (ZA hyZ6b (ZA hkZ8a (ZA hkZ8b (ZA hyZ9 eZ11)))))) (ZA S_laws_toServiceSL1.eq_1 (ZA SX_laws_toServiceSL1.eq_1 hlZ10.symm))
  · cases h
    exact ZL cZ5 (ZA S_laws_toServiceSL1.eq_1 SX_laws_toServiceSL1.eq_1)
theorem w_laws_toServiceS (aZ0 : List TService) {r : List TService} (h : M_laws_toServiceS aZ0 = some r) : Ok Tryz.prog 16 [.lst .o 10 (aZ0.map (e_TService .o))] ((fun r => .lst .u 10 (r.map (e_TService .u))) r) := by
  refine ok_of_body hmix m16 rfl ?_
  unfold M_laws_toServiceS at h
  simp only [ZC, A16, V16, body_eq]
  obtain ⟨uZ1, huZ1, h⟩ := bind_s h
  obtain ⟨huZ11, huZ12, huZ13, huZ14⟩ := grd_s huZ1
  obtain ⟨lZ2, hlZ2, h⟩ := bnd_s h
  have eZ3 : List.replicate (Int.toNat (aZ0.length : Int)) (.agg [.i 0, .i 0, .i 0, .lst .u 1 [], .i 0, .i 0, .i 0, .lst .u 1 [], .i 0, .i 0] : AV) = lZ2.map (e_TService .u) := by rw [← hlZ2, List.map_replicate]; rfl
  obtain ⟨oZ12, hoZ12, h⟩ := bind_s h
  try refine ZF (ZA huZ11 (ZA huZ12 (ZA huZ13 (ZA huZ14 eZ3)))) ?_
  refine join_rule0 (blk_rule0 (loop_rule (w_laws_toServiceSL1 aZ0) hoZ12 ?_)) ?_
  · exact ZK (ZA S_laws_toServiceSL1.eq_1 (ZA SX_laws_toServiceSL1.eq_1 (ZA hlZ2.symm @Zr)))
  · simp only [ZC, SX_laws_toServiceSL1, A16R2]
    cases h
    exact ZL (ZA huZ11 (ZA huZ12 (ZA huZ13 (ZA huZ14 eZ3)))) V16.eq_1
theorem w_spec_l1In (xZ0 : Int) (aZ0 : Int) (bZ0 : Int) {r : Bool} (h : M_spec_l1In xZ0 aZ0 bZ0 = some r) : Ok Tryz.prog 82 [.i xZ0, .i aZ0, .i bZ0] ((fun r => .b r) r) := by
  refine ok_of_body hmix m82 rfl ?_
  unfold M_spec_l1In at h
  simp only [ZC, A82, V82, body_eq]
  obtain ⟨cZ1, h⟩ | ⟨cZ1, h⟩ := cond_s h
  · cases h
    exact ZL cZ1 V82.eq_1
  · cases h
    exact ZL cZ1 V82.eq_1
theorem w_spec_l2Sign (bZ0 : Int) {r : Bool} (h : M_spec_l2Sign bZ0 = some r) : Ok Tryz.prog 138 [.sc (.int .u8 bZ0)] ((fun r => .b r) r) := by
  refine ok_of_body hmix m138 rfl ?_
  unfold M_spec_l2Sign at h
  simp only [ZC, A138, V138, body_eq]
  obtain ⟨cZ1, h⟩ | ⟨cZ1, h⟩ := cond_s h
  · obtain ⟨cZ2, h⟩ | ⟨cZ2, h⟩ := cond_s h
    · cases h
      exact ZL (ZA cZ1 cZ2) V138.eq_1
    · obtain ⟨cZ3, h⟩ | ⟨cZ3, h⟩ := cond_s h
      · cases h
        exact ZL (ZA cZ1 (ZA cZ2 cZ3)) V138.eq_1
      · cases h
        exact ZL (ZA cZ1 (ZA cZ2 cZ3)) V138.eq_1
  · obtain ⟨cZ4, h⟩ | ⟨cZ4, h⟩ := cond_s h
    · cases h
      exact ZL (ZA cZ1 cZ4) V138.eq_1
    · cases h
      exact ZL (ZA cZ1 cZ4) V138.eq_1
def S_spec_l2NameL1 (sZ0 : ByteArray) (v : Int) : St := ⟨[(0, .z sZ0), (3, .i v)], []⟩
def SX_spec_l2NameL1 (v : Unit) : St := ⟨[], []⟩
theorem w_spec_l2NameL1 (sZ0 : ByteArray) (sZ7 : Int) (o : Int ⊕ (Unit ⊕ Bool)) (h : M_spec_l2NameL1 sZ0 sZ7 = some o) : AWP (OkS Tryz.prog) A120L2 (qL [0, 3] [] (S_spec_l2NameL1 sZ0) (qS (qX 0 [] [] (SX_spec_l2NameL1)) (qR V120 (fun r => .b r))) o) (S_spec_l2NameL1 sZ0 sZ7) := by
  unfold M_spec_l2NameL1 at h
  simp only [ZC, S_spec_l2NameL1, A120L2]
  obtain ⟨cZ8, h⟩ | ⟨cZ8, h⟩ := cond_s h
  · obtain ⟨yZ9, hyZ9, h⟩ := bind_s h
    obtain ⟨hyZ9a, hyZ9b⟩ := getz_s hyZ9
    obtain ⟨rZ10, hrZ10, h⟩ := bind_s h
    refine ZF (ZA cZ8 (ZA hyZ9a hyZ9b)) ?_
    refine ZS (ZA cZ8 (ZA hyZ9a hyZ9b)) (w_spec_l2Sign _ hrZ10) ?_
    refine ZG ?_
    obtain ⟨cZ11, h⟩ | ⟨cZ11, h⟩ := cond_s h
    · cases h
      exact ZL (ZA cZ8 (ZA hyZ9a (ZA hyZ9b cZ11))) V120.eq_1
    · cases h
      exact ZL (ZA cZ8 (ZA hyZ9a (ZA hyZ9b cZ11))) (ZA S_spec_l2NameL1.eq_1 SX_spec_l2NameL1.eq_1)
  · cases h
    exact ZL cZ8 (ZA S_spec_l2NameL1.eq_1 SX_spec_l2NameL1.eq_1)
theorem w_spec_l2Name (sZ0 : ByteArray) {r : Bool} (h : M_spec_l2Name sZ0 = some r) : Ok Tryz.prog 120 [.z sZ0] ((fun r => .b r) r) := by
  refine ok_of_body hmix m120 rfl ?_
  unfold M_spec_l2Name at h
  simp only [ZC, A120, V120, body_eq]
  obtain ⟨oZ5, hoZ5, h⟩ := bind_s h
  try refine ZF trivial ?_
  refine join_rule0 (sh := (fun v => ⟨[(0, .z sZ0), (17, .b v)], []⟩)) (s := oZ5) ?_ ?_
  · replace h := hoZ5
    obtain ⟨rZ1, hrZ1, h⟩ := bind_s h
    refine ZF trivial ?_
    refine ZS trivial (w_spec_l1In _ _ _ hrZ1) ?_
    refine ZG ?_
    obtain ⟨cZ2, h⟩ | ⟨cZ2, h⟩ := cond_s h
    · cases h
      exact ZL cZ2 trivial
    · obtain ⟨yZ3, hyZ3, h⟩ := bind_s h
      obtain ⟨hyZ3a, hyZ3b⟩ := getz_s hyZ3
      obtain ⟨cZ4, h⟩ | ⟨cZ4, h⟩ := cond_s h
      · cases h
        exact ZL (ZA cZ2 (ZA hyZ3a (ZA hyZ3b cZ4))) trivial
      · cases h
        exact ZL (ZA cZ2 (ZA hyZ3a (ZA hyZ3b cZ4))) trivial
  · simp only [ZC, A120R1]
    obtain ⟨cZ6, h⟩ | ⟨cZ6, h⟩ := cond_s h
    · cases h
      exact ZL cZ6 V120.eq_1
    · obtain ⟨oZ12, hoZ12, h⟩ := bind_s h
      try refine ZF cZ6 ?_
      refine join_rule (o := oZ12) (blk_rule sideR (loop_rule (w_spec_l2NameL1 sZ0) hoZ12 ?_)) (fun vZ13 hv => ?_) (fun xZ14 hv e τ hne hq => ?_)
      · exact ZK (ZA S_spec_l2NameL1.eq_1 SX_spec_l2NameL1.eq_1)
      · subst hv
        simp only [] at h
        simp only [ZC, SX_spec_l2NameL1, A120R3]
        cases h
        exact ZL cZ6 V120.eq_1
      · subst hv
        simp only [] at h
        obtain ⟨rfl, qZ15⟩ := hq
        cases h
        exact qZ15
def S_spec_l2FindL1 (listZ0 : List ByteArray) (nameZ0 : ByteArray) (v : Int) : St := ⟨[(0, .lst .o 1 (listZ0.map AV.z)), (1, .z nameZ0), (5, .i v)], []⟩
def SX_spec_l2FindL1 (v : Unit) : St := ⟨[], []⟩
theorem w_spec_l2FindL1 (listZ0 : List ByteArray) (nameZ0 : ByteArray) (sZ1 : Int) (o : Int ⊕ (Unit ⊕ Int)) (h : M_spec_l2FindL1 listZ0 nameZ0 sZ1 = some o) : AWP (OkS Tryz.prog) A121L1 (qL [0, 1, 5] [] (S_spec_l2FindL1 listZ0 nameZ0) (qS (qX 0 [] [] (SX_spec_l2FindL1)) (qR V121 (fun r => .i r))) o) (S_spec_l2FindL1 listZ0 nameZ0 sZ1) := by
  unfold M_spec_l2FindL1 at h
  simp only [ZC, S_spec_l2FindL1, A121L1]
  obtain ⟨cZ2, h⟩ | ⟨cZ2, h⟩ := cond_s h
  · obtain ⟨yZ3, hyZ3, h⟩ := bind_s h
    obtain ⟨hyZ3a, hyZ3b⟩ := geti_s hyZ3
    obtain ⟨cZ4, h⟩ | ⟨cZ4, h⟩ := cond_s h
    · cases h
      exact ZL (ZA cZ2 (ZA hyZ3a (ZA hyZ3b cZ4))) V121.eq_1
    · cases h
      exact ZL (ZA cZ2 (ZA hyZ3a (ZA hyZ3b cZ4))) (ZA S_spec_l2FindL1.eq_1 SX_spec_l2FindL1.eq_1)
  · cases h
    exact ZL cZ2 (ZA S_spec_l2FindL1.eq_1 SX_spec_l2FindL1.eq_1)
theorem w_spec_l2Find (listZ0 : List ByteArray) (nameZ0 : ByteArray) {r : Int} (h : M_spec_l2Find listZ0 nameZ0 = some r) : Ok Tryz.prog 121 [.lst .o 1 (listZ0.map AV.z), .z nameZ0] ((fun r => .i r) r) := by
  refine ok_of_body hmix m121 rfl ?_
  unfold M_spec_l2Find at h
  simp only [ZC, A121, V121, body_eq]
  obtain ⟨oZ5, hoZ5, h⟩ := bind_s h
  try refine ZF trivial ?_
  refine join_rule (o := oZ5) (blk_rule sideR (loop_rule (w_spec_l2FindL1 listZ0 nameZ0) hoZ5 ?_)) (fun vZ6 hv => ?_) (fun xZ7 hv e τ hne hq => ?_)
  · exact ZK (ZA S_spec_l2FindL1.eq_1 SX_spec_l2FindL1.eq_1)
  · subst hv
    simp only [] at h
    simp only [ZC, SX_spec_l2FindL1, A121R2]
    cases h
    exact ZL trivial V121.eq_1
  · subst hv
    simp only [] at h
    obtain ⟨rfl, qZ8⟩ := hq
    cases h
    exact qZ8
theorem w_spec_l2Fiber (fZ0 : TFiber) (nodesZ0 : Int) {r : Bool} (h : M_spec_l2Fiber fZ0 nodesZ0 = some r) : Ok Tryz.prog 122 [.agg [.i fZ0.A, .i fZ0.B, .i fZ0.Length, .i fZ0.Risk], .i nodesZ0] ((fun r => .b r) r) := by
  refine ok_of_body hmix m122 rfl ?_
  unfold M_spec_l2Fiber at h
  simp only [ZC, A122, V122, body_eq]
  obtain ⟨rZ1, hrZ1, h⟩ := bind_s h
  refine ZF trivial ?_
  refine ZS trivial (w_spec_l1In _ _ _ hrZ1) ?_
  refine ZG ?_
  obtain ⟨cZ2, h⟩ | ⟨cZ2, h⟩ := cond_s h
  · obtain ⟨rZ3, hrZ3, h⟩ := bind_s h
    refine ZF cZ2 ?_
    refine ZS cZ2 (w_spec_l1In _ _ _ hrZ3) ?_
    refine ZG ?_
    obtain ⟨cZ4, h⟩ | ⟨cZ4, h⟩ := cond_s h
    · obtain ⟨rZ5, hrZ5, h⟩ := bind_s h
      refine ZF (ZA cZ2 cZ4) ?_
      refine ZS (ZA cZ2 cZ4) (w_spec_l1In _ _ _ hrZ5) ?_
      refine ZG ?_
      obtain ⟨cZ6, h⟩ | ⟨cZ6, h⟩ := cond_s h
      · obtain ⟨rZ7, hrZ7, h⟩ := bind_s h
        refine ZF (ZA cZ2 (ZA cZ4 cZ6)) ?_
        refine ZS (ZA cZ2 (ZA cZ4 cZ6)) (w_spec_l1In _ _ _ hrZ7) ?_
        refine ZG ?_
        cases h
        exact ZL (ZA cZ2 (ZA cZ4 cZ6)) V122.eq_1
      · cases h
        exact ZL (ZA cZ2 (ZA cZ4 cZ6)) V122.eq_1
    · cases h
      exact ZL (ZA cZ2 cZ4) V122.eq_1
  · cases h
    exact ZL cZ2 V122.eq_1
theorem w_spec_l2Before (fZ0 : TFiber) (gZ0 : TFiber) {r : Int} (h : M_spec_l2Before fZ0 gZ0 = some r) : Ok Tryz.prog 123 [.agg [.i fZ0.A, .i fZ0.B, .i fZ0.Length, .i fZ0.Risk], .agg [.i gZ0.A, .i gZ0.B, .i gZ0.Length, .i gZ0.Risk]] ((fun r => .i r) r) := by
  refine ok_of_body hmix m123 rfl ?_
  unfold M_spec_l2Before at h
  simp only [ZC, A123, V123, body_eq]
  obtain ⟨cZ1, h⟩ | ⟨cZ1, h⟩ := cond_s h
  · cases h
    exact ZL cZ1 V123.eq_1
  · obtain ⟨cZ2, h⟩ | ⟨cZ2, h⟩ := cond_s h
    · cases h
      exact ZL (ZA cZ1 cZ2) V123.eq_1
    · obtain ⟨cZ3, h⟩ | ⟨cZ3, h⟩ := cond_s h
      · cases h
        exact ZL (ZA cZ1 (ZA cZ2 cZ3)) V123.eq_1
      · cases h
        exact ZL (ZA cZ1 (ZA cZ2 cZ3)) V123.eq_1
def S_spec_l2GoodL1 (nZ0 : TNetwork) (v : Int) : St := ⟨[(1, .pt 1 0 0), (3, .i v)], [(1, .var (.agg [.lst .o 1 (nZ0.Nodes.map AV.z), .lst .o 4 (nZ0.Fibers.map (e_TFiber .o))]))]⟩
def SX_spec_l2GoodL1 (nZ0 : TNetwork) (v : Unit) : St := ⟨[(1, .pt 1 0 0)], [(1, .var (.agg [.lst .o 1 (nZ0.Nodes.map AV.z), .lst .o 4 (nZ0.Fibers.map (e_TFiber .o))]))]⟩
theorem w_spec_l2GoodL1 (nZ0 : TNetwork) (sZ5 : Int) (o : Int ⊕ (Unit ⊕ Bool)) (h : M_spec_l2GoodL1 nZ0 sZ5 = some o) : AWP (OkS Tryz.prog) A88L3 (qL [1, 3] [1] (S_spec_l2GoodL1 nZ0) (qS (qX 0 [1] [1] (SX_spec_l2GoodL1 nZ0)) (qR V88 (fun r => .b r))) o) (S_spec_l2GoodL1 nZ0 sZ5) := by
  unfold M_spec_l2GoodL1 at h
  simp only [ZC, S_spec_l2GoodL1, A88L3]
  obtain ⟨cZ6, h⟩ | ⟨cZ6, h⟩ := cond_s h
  · obtain ⟨oZ11, hoZ11, h⟩ := bind_s h
    try refine ZF cZ6 ?_
    refine join_rule0 (sh := (fun v => ⟨[(1, .pt 1 0 0), (3, .i sZ5), (41, .b v)], [(1, .var (.agg [.lst .o 1 (nZ0.Nodes.map AV.z), .lst .o 4 (nZ0.Fibers.map (e_TFiber .o))]))]⟩)) (s := oZ11) ?_ ?_
    · replace h := hoZ11
      obtain ⟨yZ7, hyZ7, h⟩ := bind_s h
      obtain ⟨hyZ7a, hyZ7b⟩ := geti_s hyZ7
      obtain ⟨rZ8, hrZ8, h⟩ := bind_s h
      refine ZF (ZA cZ6 (ZA hyZ7a hyZ7b)) ?_
      refine ZS (ZA cZ6 (ZA hyZ7a hyZ7b)) (w_spec_l2Name _ hrZ8) ?_
      refine ZG ?_
      obtain ⟨cZ9, h⟩ | ⟨cZ9, h⟩ := cond_s h
      · cases h
        exact ZL (ZA cZ6 (ZA hyZ7a (ZA hyZ7b cZ9))) trivial
      · obtain ⟨rZ10, hrZ10, h⟩ := bind_s h
        refine ZF (ZA cZ6 (ZA hyZ7a (ZA hyZ7b cZ9))) ?_
        refine ZS (ZA cZ6 (ZA hyZ7a (ZA hyZ7b cZ9))) (w_spec_l2Find _ _ hrZ10) ?_
        refine ZG ?_
        cases h
        exact ZL (ZA cZ6 (ZA hyZ7a (ZA hyZ7b cZ9))) trivial
    · simp only [ZC, A88R2]
      obtain ⟨cZ12, h⟩ | ⟨cZ12, h⟩ := cond_s h
      · cases h
        exact ZL (ZA cZ6 cZ12) V88.eq_1
      · cases h
        exact ZL (ZA cZ6 cZ12) (ZA S_spec_l2GoodL1.eq_1 SX_spec_l2GoodL1.eq_1)
  · cases h
    exact ZL cZ6 (ZA S_spec_l2GoodL1.eq_1 SX_spec_l2GoodL1.eq_1)
def S_spec_l2GoodL2 (nZ0 : TNetwork) (v : Int) : St := ⟨[(1, .pt 1 0 0), (4, .i v)], [(1, .var (.agg [.lst .o 1 (nZ0.Nodes.map AV.z), .lst .o 4 (nZ0.Fibers.map (e_TFiber .o))]))]⟩
def SX_spec_l2GoodL2 (v : Unit) : St := ⟨[], []⟩
theorem w_spec_l2GoodL2 (nZ0 : TNetwork) (sZ16 : Int) (o : Int ⊕ (Unit ⊕ Bool)) (h : M_spec_l2GoodL2 nZ0 sZ16 = some o) : AWP (OkS Tryz.prog) A88L6 (qL [1, 4] [1] (S_spec_l2GoodL2 nZ0) (qS (qX 2 [] [] (SX_spec_l2GoodL2)) (qR V88 (fun r => .b r))) o) (S_spec_l2GoodL2 nZ0 sZ16) := by
  unfold M_spec_l2GoodL2 at h
  simp only [ZC, S_spec_l2GoodL2, A88L6]
  obtain ⟨cZ17, h⟩ | ⟨cZ17, h⟩ := cond_s h
  · obtain ⟨oZ24, hoZ24, h⟩ := bind_s h
    try refine ZF cZ17 ?_
    refine join_rule0 (sh := (fun v => ⟨[(1, .pt 1 0 0), (4, .i sZ16), (77, .b v)], [(1, .var (.agg [.lst .o 1 (nZ0.Nodes.map AV.z), .lst .o 4 (nZ0.Fibers.map (e_TFiber .o))]))]⟩)) (s := oZ24) ?_ ?_
    · replace h := hoZ24
      obtain ⟨yZ18, hyZ18, h⟩ := bind_s h
      obtain ⟨hyZ18a, hyZ18b⟩ := geti_s hyZ18
      obtain ⟨rZ19, hrZ19, h⟩ := bind_s h
      refine ZF (ZA cZ17 (ZA hyZ18a hyZ18b)) ?_
      refine ZS (ZA cZ17 (ZA hyZ18a hyZ18b)) (w_spec_l2Fiber _ _ hrZ19) ?_
      refine ZG ?_
      obtain ⟨cZ20, h⟩ | ⟨cZ20, h⟩ := cond_s h
      · cases h
        exact ZL (ZA cZ17 (ZA hyZ18a (ZA hyZ18b cZ20))) trivial
      · obtain ⟨cZ21, h⟩ | ⟨cZ21, h⟩ := cond_s h
        · obtain ⟨yZ22, hyZ22, h⟩ := bind_s h
          obtain ⟨hyZ22a, hyZ22b⟩ := geti_s hyZ22
          obtain ⟨rZ23, hrZ23, h⟩ := bind_s h
          refine ZF (ZA cZ17 (ZA hyZ18a (ZA hyZ18b (ZA cZ20 (ZA cZ21 (ZA hyZ22a hyZ22b)))))) ?_
          refine ZS (ZA cZ17 (ZA hyZ18a (ZA hyZ18b (ZA cZ20 (ZA cZ21 (ZA hyZ22a hyZ22b)))))) (w_spec_l2Before _ _ hrZ23) ?_
          refine ZG ?_
          cases h
          exact ZL (ZA cZ17 (ZA hyZ18a (ZA hyZ18b (ZA cZ20 (ZA cZ21 (ZA hyZ22a hyZ22b)))))) trivial
        · cases h
          exact ZL (ZA cZ17 (ZA hyZ18a (ZA hyZ18b (ZA cZ20 cZ21)))) trivial
    · simp only [ZC, A88R5]
      obtain ⟨cZ25, h⟩ | ⟨cZ25, h⟩ := cond_s h
      · cases h
        exact ZL (ZA cZ17 cZ25) V88.eq_1
      · cases h
        exact ZL (ZA cZ17 cZ25) (ZA S_spec_l2GoodL2.eq_1 SX_spec_l2GoodL2.eq_1)
  · cases h
    exact ZL cZ17 (ZA S_spec_l2GoodL2.eq_1 SX_spec_l2GoodL2.eq_1)
theorem w_spec_l2Good (nZ0 : TNetwork) {r : Bool} (h : M_spec_l2Good nZ0 = some r) : Ok Tryz.prog 88 [.agg [.lst .o 1 (nZ0.Nodes.map AV.z), .lst .o 4 (nZ0.Fibers.map (e_TFiber .o))]] ((fun r => .b r) r) := by
  refine ok_of_body hmix m88 rfl ?_
  unfold M_spec_l2Good at h
  simp only [ZC, A88, V88, body_eq]
  obtain ⟨oZ3, hoZ3, h⟩ := bind_s h
  try refine ZF trivial ?_
  refine join_rule0 (sh := (fun v => ⟨[(1, .pt 1 0 0), (15, .b v)], [(1, .var (.agg [.lst .o 1 (nZ0.Nodes.map AV.z), .lst .o 4 (nZ0.Fibers.map (e_TFiber .o))]))]⟩)) (s := oZ3) ?_ ?_
  · replace h := hoZ3
    obtain ⟨rZ1, hrZ1, h⟩ := bind_s h
    refine ZF trivial ?_
    refine ZS trivial (w_spec_l1In _ _ _ hrZ1) ?_
    refine ZG ?_
    obtain ⟨cZ2, h⟩ | ⟨cZ2, h⟩ := cond_s h
    · cases h
      exact ZL cZ2 trivial
    · cases h
      exact ZL cZ2 trivial
  · simp only [ZC, A88R1]
    obtain ⟨cZ4, h⟩ | ⟨cZ4, h⟩ := cond_s h
    · cases h
      exact ZL cZ4 V88.eq_1
    · obtain ⟨oZ13, hoZ13, h⟩ := bind_s h
      try refine ZF cZ4 ?_
      refine join_rule (o := oZ13) (blk_rule sideR (loop_rule (w_spec_l2GoodL1 nZ0) hoZ13 ?_)) (fun vZ14 hv => ?_) (fun xZ15 hv e τ hne hq => ?_)
      · exact ZK (ZA S_spec_l2GoodL1.eq_1 SX_spec_l2GoodL1.eq_1)
      · subst hv
        simp only [] at h
        simp only [ZC, SX_spec_l2GoodL1, A88R4]
        obtain ⟨oZ26, hoZ26, h⟩ := bind_s h
        try refine ZF cZ4 ?_
        refine join_rule (o := oZ26) (blk_rule sideR (loop_rule (w_spec_l2GoodL2 nZ0) hoZ26 ?_)) (fun vZ27 hv => ?_) (fun xZ28 hv e τ hne hq => ?_)
        · exact ZK (ZA S_spec_l2GoodL2.eq_1 SX_spec_l2GoodL2.eq_1)
        · subst hv
          simp only [] at h
          simp only [ZC, SX_spec_l2GoodL2, A88R7]
          cases h
          exact ZL cZ4 V88.eq_1
        · subst hv
          simp only [] at h
          obtain ⟨rfl, qZ29⟩ := hq
          cases h
          exact qZ29
      · subst hv
        simp only [] at h
        obtain ⟨rfl, qZ30⟩ := hq
        cases h
        exact qZ30
theorem w_spec_l2Other (nZ0 : TNetwork) (fiberZ0 : Int) (nodeZ0 : Int) {r : Int} (h : M_spec_l2Other nZ0 fiberZ0 nodeZ0 = some r) : Ok Tryz.prog 148 [.agg [.lst .o 1 (nZ0.Nodes.map AV.z), .lst .o 4 (nZ0.Fibers.map (e_TFiber .o))], .i fiberZ0, .i nodeZ0] ((fun r => .i r) r) := by
  refine ok_of_body hmix m148 rfl ?_
  unfold M_spec_l2Other at h
  simp only [ZC, A148, V148, body_eq]
  obtain ⟨yZ1, hyZ1, h⟩ := bind_s h
  obtain ⟨hyZ1a, hyZ1b⟩ := geti_s hyZ1
  obtain ⟨cZ2, h⟩ | ⟨cZ2, h⟩ := cond_s h
  · cases h
    exact ZL (ZA hyZ1a (ZA hyZ1b cZ2)) V148.eq_1
  · obtain ⟨cZ3, h⟩ | ⟨cZ3, h⟩ := cond_s h
    · cases h
      exact ZL (ZA hyZ1a (ZA hyZ1b (ZA cZ2 cZ3))) V148.eq_1
    · cases h
      exact ZL (ZA hyZ1a (ZA hyZ1b (ZA cZ2 cZ3))) V148.eq_1
def S_spec_l1HasL1 (lZ0 : List Int) (nZ0 : Int) (v : Int) : St := ⟨[(0, .lst .o 1 (lZ0.map AV.i)), (1, .i nZ0), (5, .i v)], []⟩
def SX_spec_l1HasL1 (v : Unit) : St := ⟨[], []⟩
theorem w_spec_l1HasL1 (lZ0 : List Int) (nZ0 : Int) (sZ1 : Int) (o : Int ⊕ (Unit ⊕ Bool)) (h : M_spec_l1HasL1 lZ0 nZ0 sZ1 = some o) : AWP (OkS Tryz.prog) A73L1 (qL [0, 1, 5] [] (S_spec_l1HasL1 lZ0 nZ0) (qS (qX 0 [] [] (SX_spec_l1HasL1)) (qR V73 (fun r => .b r))) o) (S_spec_l1HasL1 lZ0 nZ0 sZ1) := by
  unfold M_spec_l1HasL1 at h
  simp only [ZC, S_spec_l1HasL1, A73L1]
  obtain ⟨cZ2, h⟩ | ⟨cZ2, h⟩ := cond_s h
  · obtain ⟨yZ3, hyZ3, h⟩ := bind_s h
    obtain ⟨hyZ3a, hyZ3b⟩ := geti_s hyZ3
    obtain ⟨cZ4, h⟩ | ⟨cZ4, h⟩ := cond_s h
    · cases h
      exact ZL (ZA cZ2 (ZA hyZ3a (ZA hyZ3b cZ4))) V73.eq_1
    · cases h
      exact ZL (ZA cZ2 (ZA hyZ3a (ZA hyZ3b cZ4))) (ZA S_spec_l1HasL1.eq_1 SX_spec_l1HasL1.eq_1)
  · cases h
    exact ZL cZ2 (ZA S_spec_l1HasL1.eq_1 SX_spec_l1HasL1.eq_1)
theorem w_spec_l1Has (lZ0 : List Int) (nZ0 : Int) {r : Bool} (h : M_spec_l1Has lZ0 nZ0 = some r) : Ok Tryz.prog 73 [.lst .o 1 (lZ0.map AV.i), .i nZ0] ((fun r => .b r) r) := by
  refine ok_of_body hmix m73 rfl ?_
  unfold M_spec_l1Has at h
  simp only [ZC, A73, V73, body_eq]
  obtain ⟨oZ5, hoZ5, h⟩ := bind_s h
  try refine ZF trivial ?_
  refine join_rule (o := oZ5) (blk_rule sideR (loop_rule (w_spec_l1HasL1 lZ0 nZ0) hoZ5 ?_)) (fun vZ6 hv => ?_) (fun xZ7 hv e τ hne hq => ?_)
  · exact ZK (ZA S_spec_l1HasL1.eq_1 SX_spec_l1HasL1.eq_1)
  · subst hv
    simp only [] at h
    simp only [ZC, SX_spec_l1HasL1, A73R2]
    cases h
    exact ZL trivial V73.eq_1
  · subst hv
    simp only [] at h
    obtain ⟨rfl, qZ8⟩ := hq
    cases h
    exact qZ8
def S_spec_l4WalkL1 (nZ0 : TNetwork) (rZ0 : TRoute) (v : Int × List Int) : St := ⟨[(2, .pt 2 0 0), (3, .pt 3 0 0), (6, .sl 6 0 v.2.length), (7, .i v.1)], [(2, .var (.agg [.lst .o 1 (nZ0.Nodes.map AV.z), .lst .o 4 (nZ0.Fibers.map (e_TFiber .o))])), (3, .var (.agg [.i rZ0.Start, .lst .o 1 (rZ0.Fibers.map AV.i)])), (6, .arr 1 (v.2.map AV.i))]⟩
def SX_spec_l4WalkL1 (v : List Int) : St := ⟨[(6, .sl 6 0 v.length)], [(6, .arr 1 (v.map AV.i))]⟩
theorem w_spec_l4WalkL1 (nZ0 : TNetwork) (rZ0 : TRoute) (sZ8 : Int × List Int) (o : (Int × List Int) ⊕ ((List Int) ⊕ (List Int × Bool))) (h : M_spec_l4WalkL1 nZ0 rZ0 sZ8 = some o) : AWP (OkS Tryz.prog) A139L3 (qL [2, 3, 6, 7] [2, 3, 6] (S_spec_l4WalkL1 nZ0 rZ0) (qS (qX 0 [6] [6] (SX_spec_l4WalkL1)) (qR V139 (fun r => .tup [.lst .u 1 (r.1.map AV.i), .b r.2]))) o) (S_spec_l4WalkL1 nZ0 rZ0 sZ8) := by
  unfold M_spec_l4WalkL1 at h
  simp only [ZC, S_spec_l4WalkL1, A139L3]
  obtain ⟨cZ9, h⟩ | ⟨cZ9, h⟩ := cond_s h
  · obtain ⟨yZ10, hyZ10, h⟩ := bind_s h
    obtain ⟨hyZ10a, hyZ10b⟩ := geti_s hyZ10
    obtain ⟨rZ11, hrZ11, h⟩ := bind_s h
    refine ZF (ZA cZ9 (ZA hyZ10a hyZ10b)) ?_
    refine ZS (ZA cZ9 (ZA hyZ10a hyZ10b)) (w_spec_l1In _ _ _ hrZ11) ?_
    refine ZG ?_
    obtain ⟨cZ12, h⟩ | ⟨cZ12, h⟩ := cond_s h
    · cases h
      exact ZL (ZA cZ9 (ZA hyZ10a (ZA hyZ10b cZ12))) V139.eq_1
    · obtain ⟨kZ13, hkZ13, h⟩ := bind_s h
      obtain ⟨hkZ13a, hkZ13b⟩ := grd_s hkZ13
      obtain ⟨yZ14, hyZ14, h⟩ := bind_s h
      obtain ⟨rZ15, hrZ15, h⟩ := bind_s h
      refine ZF (ZA cZ9 (ZA hyZ10a (ZA hyZ10b (ZA cZ12 (ZA hkZ13a (ZA hkZ13b hyZ14)))))) ?_
      refine ZS (ZA cZ9 (ZA hyZ10a (ZA hyZ10b (ZA cZ12 (ZA hkZ13a (ZA hkZ13b hyZ14)))))) (w_spec_l2Other _ _ _ hrZ15) ?_
      refine ZG ?_
      obtain ⟨oZ18, hoZ18, h⟩ := bind_s h
      try refine ZF (ZA cZ9 (ZA hyZ10a (ZA hyZ10b (ZA cZ12 (ZA hkZ13a (ZA hkZ13b hyZ14)))))) ?_
      refine join_rule0 (sh := (fun v => ⟨[(2, .pt 2 0 0), (3, .pt 3 0 0), (6, .sl 6 0 sZ8.2.length), (7, .i sZ8.1), (8, .i rZ15), (65, .b v)], [(2, .var (.agg [.lst .o 1 (nZ0.Nodes.map AV.z), .lst .o 4 (nZ0.Fibers.map (e_TFiber .o))])), (3, .var (.agg [.i rZ0.Start, .lst .o 1 (rZ0.Fibers.map AV.i)])), (6, .arr 1 (sZ8.2.map AV.i))]⟩)) (s := oZ18) ?_ ?_
      · replace h := hoZ18
        obtain ⟨cZ16, h⟩ | ⟨cZ16, h⟩ := cond_s h
        · cases h
          exact ZL (ZA cZ9 (ZA hyZ10a (ZA hyZ10b (ZA cZ12 (ZA hkZ13a (ZA hkZ13b (ZA hyZ14 cZ16))))))) trivial
        · obtain ⟨rZ17, hrZ17, h⟩ := bind_s h
          refine ZF (ZA cZ9 (ZA hyZ10a (ZA hyZ10b (ZA cZ12 (ZA hkZ13a (ZA hkZ13b (ZA hyZ14 cZ16))))))) ?_
          refine ZS (ZA cZ9 (ZA hyZ10a (ZA hyZ10b (ZA cZ12 (ZA hkZ13a (ZA hkZ13b (ZA hyZ14 cZ16))))))) (w_spec_l1Has _ _ hrZ17) ?_
          refine ZG ?_
          cases h
          exact ZL (ZA cZ9 (ZA hyZ10a (ZA hyZ10b (ZA cZ12 (ZA hkZ13a (ZA hkZ13b (ZA hyZ14 cZ16))))))) trivial
      · simp only [ZC, A139R2]
        obtain ⟨cZ19, h⟩ | ⟨cZ19, h⟩ := cond_s h
        · cases h
          exact ZL (ZA cZ9 (ZA hyZ10a (ZA hyZ10b (ZA cZ12 (ZA hkZ13a (ZA hkZ13b (ZA hyZ14 cZ19))))))) V139.eq_1
        · obtain ⟨lZ20, hlZ20, h⟩ := bnd_s h
          have eZ21 : Row.arr 1 [(.i rZ15 : AV)] = Row.arr 1 (lZ20.map AV.i) := by rw [← hlZ20]; rfl
          have jjZ22 : lZ20.length = 1 := by rw [← hlZ20]; rfl
          obtain ⟨uZ23, huZ23, h⟩ := bind_s h
          have huZ23g := grd_s huZ23
          obtain ⟨lZ24, hlZ24, h⟩ := bnd_s h
          have eZ25 : sZ8.2.map AV.i ++ lZ20.map AV.i = lZ24.map AV.i := by rw [← hlZ24, List.map_append]
          have eZ26 : sZ8.2.length + 1 = lZ24.length := by simp [← hlZ20, ← hlZ24] <;> omega
          rw [eZ26] at huZ23g
          cases h
          exact ZL (ZA cZ9 (ZA hyZ10a (ZA hyZ10b (ZA cZ12 (ZA hkZ13a (ZA hkZ13b (ZA hyZ14 (ZA cZ19 (ZA eZ21 (ZA jjZ22 (ZA huZ23g (ZA eZ25 eZ26)))))))))))) (ZA S_spec_l4WalkL1.eq_1 (ZA SX_spec_l4WalkL1.eq_1 (ZA hlZ20.symm (ZA hlZ24.symm jjZ22))))
  · cases h
    exact ZL cZ9 (ZA S_spec_l4WalkL1.eq_1 SX_spec_l4WalkL1.eq_1)
theorem w_spec_l4Walk (nZ0 : TNetwork) (rZ0 : TRoute) {r : List Int × Bool} (h : M_spec_l4Walk nZ0 rZ0 = some r) : Ok Tryz.prog 139 [.agg [.lst .o 1 (nZ0.Nodes.map AV.z), .lst .o 4 (nZ0.Fibers.map (e_TFiber .o))], .agg [.i rZ0.Start, .lst .o 1 (rZ0.Fibers.map AV.i)]] ((fun r => .tup [.lst .u 1 (r.1.map AV.i), .b r.2]) r) := by
  refine ok_of_body hmix m139 rfl ?_
  unfold M_spec_l4Walk at h
  simp only [ZC, A139, V139, body_eq]
  obtain ⟨lZ1, hlZ1, h⟩ := bnd_s h
  have eZ2 : Row.arr 1 [(.i rZ0.Start : AV)] = Row.arr 1 (lZ1.map AV.i) := by rw [← hlZ1]; rfl
  have jjZ3 : lZ1.length = 1 := by rw [← hlZ1]; rfl
  obtain ⟨oZ6, hoZ6, h⟩ := bind_s h
  try refine ZF (ZA eZ2 jjZ3) ?_
  refine join_rule0 (sh := (fun v => ⟨[(2, .pt 2 0 0), (3, .pt 3 0 0), (6, .sl 6 0 lZ1.length), (25, .b v)], [(2, .var (.agg [.lst .o 1 (nZ0.Nodes.map AV.z), .lst .o 4 (nZ0.Fibers.map (e_TFiber .o))])), (3, .var (.agg [.i rZ0.Start, .lst .o 1 (rZ0.Fibers.map AV.i)])), (6, .arr 1 (lZ1.map AV.i))]⟩)) (s := oZ6) ?_ ?_
  · replace h := hoZ6
    obtain ⟨rZ4, hrZ4, h⟩ := bind_s h
    refine ZF (ZA eZ2 jjZ3) ?_
    refine ZS (ZA eZ2 jjZ3) (w_spec_l1In _ _ _ hrZ4) ?_
    refine ZG ?_
    obtain ⟨cZ5, h⟩ | ⟨cZ5, h⟩ := cond_s h
    · cases h
      exact ZL (ZA eZ2 (ZA jjZ3 cZ5)) (ZA hlZ1.symm jjZ3)
    · cases h
      exact ZL (ZA eZ2 (ZA jjZ3 cZ5)) (ZA hlZ1.symm jjZ3)
  · simp only [ZC, A139R1]
    obtain ⟨cZ7, h⟩ | ⟨cZ7, h⟩ := cond_s h
    · cases h
      exact ZL (ZA eZ2 (ZA jjZ3 cZ7)) (ZA V139.eq_1 jjZ3)
    · obtain ⟨oZ27, hoZ27, h⟩ := bind_s h
      try refine ZF (ZA eZ2 (ZA jjZ3 cZ7)) ?_
      refine join_rule (o := oZ27) (blk_rule sideR (loop_rule (w_spec_l4WalkL1 nZ0 rZ0) hoZ27 ?_)) (fun vZ28 hv => ?_) (fun xZ29 hv e τ hne hq => ?_)
      · exact ZK (ZA S_spec_l4WalkL1.eq_1 (ZA SX_spec_l4WalkL1.eq_1 jjZ3))
      · subst hv
        simp only [] at h
        simp only [ZC, SX_spec_l4WalkL1, A139R4]
        cases h
        exact ZL (ZA eZ2 (ZA jjZ3 cZ7)) (ZA V139.eq_1 jjZ3)
      · subst hv
        simp only [] at h
        obtain ⟨rfl, qZ30⟩ := hq
        cases h
        exact qZ30
theorem w_spec_l4Good (nZ0 : TNetwork) (rZ0 : TRoute) {r : Bool} (h : M_spec_l4Good nZ0 rZ0 = some r) : Ok Tryz.prog 124 [.agg [.lst .o 1 (nZ0.Nodes.map AV.z), .lst .o 4 (nZ0.Fibers.map (e_TFiber .o))], .agg [.i rZ0.Start, .lst .o 1 (rZ0.Fibers.map AV.i)]] ((fun r => .b r) r) := by
  refine ok_of_body hmix m124 rfl ?_
  unfold M_spec_l4Good at h
  simp only [ZC, A124, V124, body_eq]
  obtain ⟨rZ1, hrZ1, h⟩ := bind_s h
  refine ZF trivial ?_
  refine ZS trivial (w_spec_l2Good _ hrZ1) ?_
  refine ZG ?_
  obtain ⟨cZ2, h⟩ | ⟨cZ2, h⟩ := cond_s h
  · cases h
    exact ZL cZ2 V124.eq_1
  · obtain ⟨rZ3, hrZ3, h⟩ := bind_s h
    refine ZF cZ2 ?_
    refine ZU cZ2 (w_spec_l4Walk _ _ hrZ3) ?_
    refine ZG ?_
    cases h
    exact ZL cZ2 V124.eq_1
theorem w_spec_l8Good (bZ0 : TBlock) {r : Bool} (h : M_spec_l8Good bZ0 = some r) : Ok Tryz.prog 125 [.agg [.i bZ0.First, .i bZ0.Count]] ((fun r => .b r) r) := by
  refine ok_of_body hmix m125 rfl ?_
  unfold M_spec_l8Good at h
  simp only [ZC, A125, V125, body_eq]
  obtain ⟨rZ1, hrZ1, h⟩ := bind_s h
  refine ZF trivial ?_
  refine ZS trivial (w_spec_l1In _ _ _ hrZ1) ?_
  refine ZG ?_
  obtain ⟨cZ2, h⟩ | ⟨cZ2, h⟩ := cond_s h
  · obtain ⟨rZ3, hrZ3, h⟩ := bind_s h
    refine ZF cZ2 ?_
    refine ZS cZ2 (w_spec_l1In _ _ _ hrZ3) ?_
    refine ZG ?_
    cases h
    exact ZL cZ2 V125.eq_1
  · cases h
    exact ZL cZ2 V125.eq_1
theorem w_spec_l4Nodes (nZ0 : TNetwork) (rZ0 : TRoute) {r : List Int} (h : M_spec_l4Nodes nZ0 rZ0 = some r) : Ok Tryz.prog 140 [.agg [.lst .o 1 (nZ0.Nodes.map AV.z), .lst .o 4 (nZ0.Fibers.map (e_TFiber .o))], .agg [.i rZ0.Start, .lst .o 1 (rZ0.Fibers.map AV.i)]] ((fun r => .lst .u 1 (r.map AV.i)) r) := by
  refine ok_of_body hmix m140 rfl ?_
  unfold M_spec_l4Nodes at h
  simp only [ZC, A140, V140, body_eq]
  obtain ⟨rZ1, hrZ1, h⟩ := bind_s h
  refine ZF trivial ?_
  refine ZU trivial (w_spec_l4Walk _ _ hrZ1) ?_
  refine ZG ?_
  cases h
  exact ZL trivial V140.eq_1
theorem w_spec_l4End (nZ0 : TNetwork) (rZ0 : TRoute) {r : Int} (h : M_spec_l4End nZ0 rZ0 = some r) : Ok Tryz.prog 126 [.agg [.lst .o 1 (nZ0.Nodes.map AV.z), .lst .o 4 (nZ0.Fibers.map (e_TFiber .o))], .agg [.i rZ0.Start, .lst .o 1 (rZ0.Fibers.map AV.i)]] ((fun r => .i r) r) := by
  refine ok_of_body hmix m126 rfl ?_
  unfold M_spec_l4End at h
  simp only [ZC, A126, V126, body_eq]
  obtain ⟨rZ1, hrZ1, h⟩ := bind_s h
  refine ZF trivial ?_
  refine ZU trivial (w_spec_l4Nodes _ _ hrZ1) ?_
  refine ZG ?_
  obtain ⟨kZ2, hkZ2, h⟩ := bind_s h
  obtain ⟨hkZ2a, hkZ2b⟩ := grd_s hkZ2
  obtain ⟨yZ3, hyZ3, h⟩ := bind_s h
  cases h
  exact ZL (ZA hkZ2a (ZA hkZ2b hyZ3)) V126.eq_1
def S_spec_l2GroupL1 (nZ0 : TNetwork) (fiberZ0 : Int) (v : Int × List Int) : St := ⟨[(1, .i fiberZ0), (2, .pt 2 0 0), (5, .sl 5 0 v.2.length), (6, .i v.1)], [(2, .var (.agg [.lst .o 1 (nZ0.Nodes.map AV.z), .lst .o 4 (nZ0.Fibers.map (e_TFiber .o))])), (5, .arr 1 (v.2.map AV.i))]⟩
def SX_spec_l2GroupL1 (v : List Int) : St := ⟨[(5, .sl 5 0 v.length)], [(5, .arr 1 (v.map AV.i))]⟩
theorem w_spec_l2GroupL1 (nZ0 : TNetwork) (fiberZ0 : Int) (sZ7 : Int × List Int) (o : (Int × List Int) ⊕ (List Int)) (h : M_spec_l2GroupL1 nZ0 fiberZ0 sZ7 = some o) : AWP (OkS Tryz.prog) A107L1 (qL [1, 2, 5, 6] [2, 5] (S_spec_l2GroupL1 nZ0 fiberZ0) (qX 0 [5] [5] (SX_spec_l2GroupL1)) o) (S_spec_l2GroupL1 nZ0 fiberZ0 sZ7) := by
  unfold M_spec_l2GroupL1 at h
  simp only [ZC, S_spec_l2GroupL1, A107L1]
  obtain ⟨cZ8, h⟩ | ⟨cZ8, h⟩ := cond_s h
  · obtain ⟨yZ9, hyZ9, h⟩ := bind_s h
    obtain ⟨hyZ9a, hyZ9b⟩ := geti_s hyZ9
    obtain ⟨yZ10, hyZ10, h⟩ := bind_s h
    obtain ⟨hyZ10a, hyZ10b⟩ := geti_s hyZ10
    obtain ⟨cZ11, h⟩ | ⟨cZ11, h⟩ := cond_s h
    · obtain ⟨lZ12, hlZ12, h⟩ := bnd_s h
      have eZ13 : Row.arr 1 [(.i sZ7.1 : AV)] = Row.arr 1 (lZ12.map AV.i) := by rw [← hlZ12]; rfl
      have jjZ14 : lZ12.length = 1 := by rw [← hlZ12]; rfl
      obtain ⟨uZ15, huZ15, h⟩ := bind_s h
      have huZ15g := grd_s huZ15
      obtain ⟨lZ16, hlZ16, h⟩ := bnd_s h
      have eZ17 : sZ7.2.map AV.i ++ lZ12.map AV.i = lZ16.map AV.i := by rw [← hlZ16, List.map_append]
      have eZ18 : sZ7.2.length + 1 = lZ16.length := by simp [← hlZ12, ← hlZ16] <;> omega
      rw [eZ18] at huZ15g
      cases h
      exact ZL (ZA cZ8 (ZA hyZ9a (ZA hyZ9b (ZA hyZ10a (ZA hyZ10b (ZA cZ11 (ZA eZ13 (ZA jjZ14 (ZA huZ15g (ZA eZ17 eZ18)))))))))) (ZA S_spec_l2GroupL1.eq_1 (ZA SX_spec_l2GroupL1.eq_1 (ZA hlZ12.symm (ZA hlZ16.symm jjZ14))))
    · cases h
      exact ZL (ZA cZ8 (ZA hyZ9a (ZA hyZ9b (ZA hyZ10a (ZA hyZ10b cZ11))))) (ZA S_spec_l2GroupL1.eq_1 SX_spec_l2GroupL1.eq_1)
  · cases h
    exact ZL cZ8 (ZA S_spec_l2GroupL1.eq_1 SX_spec_l2GroupL1.eq_1)
theorem w_spec_l2Group (nZ0 : TNetwork) (fiberZ0 : Int) {r : List Int} (h : M_spec_l2Group nZ0 fiberZ0 = some r) : Ok Tryz.prog 107 [.agg [.lst .o 1 (nZ0.Nodes.map AV.z), .lst .o 4 (nZ0.Fibers.map (e_TFiber .o))], .i fiberZ0] ((fun r => .lst .u 1 (r.map AV.i)) r) := by
  refine ok_of_body hmix m107 rfl ?_
  unfold M_spec_l2Group at h
  simp only [ZC, A107, V107, body_eq]
  obtain ⟨yZ1, hyZ1, h⟩ := bind_s h
  obtain ⟨hyZ1a, hyZ1b⟩ := geti_s hyZ1
  obtain ⟨cZ2, h⟩ | ⟨cZ2, h⟩ := cond_s h
  · obtain ⟨lZ3, hlZ3, h⟩ := bnd_s h
    have eZ4 : Row.arr 1 [(.i fiberZ0 : AV)] = Row.arr 1 (lZ3.map AV.i) := by rw [← hlZ3]; rfl
    have jjZ5 : lZ3.length = 1 := by rw [← hlZ3]; rfl
    have nZ6 : sub (lZ3.map AV.i) 0 1 = lZ3.map AV.i := sub_n _ (by simp [← hlZ3])
    cases h
    exact ZL (ZA hyZ1a (ZA hyZ1b (ZA cZ2 (ZA eZ4 (ZA jjZ5 nZ6))))) (ZA V107.eq_1 (ZA hlZ3.symm jjZ5))
  · obtain ⟨oZ19, hoZ19, h⟩ := bind_s h
    try refine ZF (ZA hyZ1a (ZA hyZ1b cZ2)) ?_
    refine join_rule0 (blk_rule0 (loop_rule (w_spec_l2GroupL1 nZ0 fiberZ0) hoZ19 ?_)) ?_
    · exact ZK (ZA S_spec_l2GroupL1.eq_1 SX_spec_l2GroupL1.eq_1)
    · simp only [ZC, SX_spec_l2GroupL1, A107R2]
      cases h
      exact ZL (ZA hyZ1a (ZA hyZ1b cZ2)) V107.eq_1
def S_spec_l4ApartL2 (nZ0 : TNetwork) (aZ0 : TRoute) (bZ0 : TRoute) (sZ1 : Int) (rZ4 : List Int) (v : Int) : St := ⟨[(3, .pt 3 0 0), (4, .pt 4 0 0), (5, .pt 5 0 0), (7, .i sZ1), (8, .sl 8 0 rZ4.length), (9, .i v)], [(3, .var (.agg [.lst .o 1 (nZ0.Nodes.map AV.z), .lst .o 4 (nZ0.Fibers.map (e_TFiber .o))])), (4, .var (.agg [.i aZ0.Start, .lst .o 1 (aZ0.Fibers.map AV.i)])), (5, .var (.agg [.i bZ0.Start, .lst .o 1 (bZ0.Fibers.map AV.i)])), (8, .arr 1 (rZ4.map AV.i))]⟩
def SX_spec_l4ApartL2 (nZ0 : TNetwork) (aZ0 : TRoute) (bZ0 : TRoute) (sZ1 : Int) (v : Unit) : St := ⟨[(3, .pt 3 0 0), (4, .pt 4 0 0), (5, .pt 5 0 0), (7, .i sZ1)], [(3, .var (.agg [.lst .o 1 (nZ0.Nodes.map AV.z), .lst .o 4 (nZ0.Fibers.map (e_TFiber .o))])), (4, .var (.agg [.i aZ0.Start, .lst .o 1 (aZ0.Fibers.map AV.i)])), (5, .var (.agg [.i bZ0.Start, .lst .o 1 (bZ0.Fibers.map AV.i)]))]⟩
theorem w_spec_l4ApartL2 (nZ0 : TNetwork) (aZ0 : TRoute) (bZ0 : TRoute) (sZ1 : Int) (rZ4 : List Int) (sZ5 : Int) (o : Int ⊕ (Unit ⊕ Bool)) (h : M_spec_l4ApartL2 bZ0 rZ4 sZ5 = some o) : AWP (OkS Tryz.prog) A127L1 (qL [3, 4, 5, 7, 8, 9] [3, 4, 5, 8] (S_spec_l4ApartL2 nZ0 aZ0 bZ0 sZ1 rZ4) (qS (qX 2 [3, 4, 5, 7] [3, 4, 5] (SX_spec_l4ApartL2 nZ0 aZ0 bZ0 sZ1)) (qR V127 (fun r => .b r))) o) (S_spec_l4ApartL2 nZ0 aZ0 bZ0 sZ1 rZ4 sZ5) := by
  unfold M_spec_l4ApartL2 at h
  simp only [ZC, S_spec_l4ApartL2, A127L1]
  obtain ⟨cZ6, h⟩ | ⟨cZ6, h⟩ := cond_s h
  · obtain ⟨yZ7, hyZ7, h⟩ := bind_s h
    obtain ⟨hyZ7a, hyZ7b⟩ := geti_s hyZ7
    obtain ⟨rZ8, hrZ8, h⟩ := bind_s h
    refine ZF (ZA cZ6 (ZA hyZ7a hyZ7b)) ?_
    refine ZS (ZA cZ6 (ZA hyZ7a hyZ7b)) (w_spec_l1Has _ _ hrZ8) ?_
    refine ZG ?_
    obtain ⟨cZ9, h⟩ | ⟨cZ9, h⟩ := cond_s h
    · cases h
      exact ZL (ZA cZ6 (ZA hyZ7a (ZA hyZ7b cZ9))) V127.eq_1
    · cases h
      exact ZL (ZA cZ6 (ZA hyZ7a (ZA hyZ7b cZ9))) (ZA S_spec_l4ApartL2.eq_1 SX_spec_l4ApartL2.eq_1)
  · cases h
    exact ZL cZ6 (ZA S_spec_l4ApartL2.eq_1 SX_spec_l4ApartL2.eq_1)
def S_spec_l4ApartL1 (nZ0 : TNetwork) (aZ0 : TRoute) (bZ0 : TRoute) (v : Int) : St := ⟨[(3, .pt 3 0 0), (4, .pt 4 0 0), (5, .pt 5 0 0), (7, .i v)], [(3, .var (.agg [.lst .o 1 (nZ0.Nodes.map AV.z), .lst .o 4 (nZ0.Fibers.map (e_TFiber .o))])), (4, .var (.agg [.i aZ0.Start, .lst .o 1 (aZ0.Fibers.map AV.i)])), (5, .var (.agg [.i bZ0.Start, .lst .o 1 (bZ0.Fibers.map AV.i)]))]⟩
def SX_spec_l4ApartL1 (v : Unit) : St := ⟨[], []⟩
theorem w_spec_l4ApartL1 (nZ0 : TNetwork) (aZ0 : TRoute) (bZ0 : TRoute) (sZ1 : Int) (o : Int ⊕ (Unit ⊕ Bool)) (h : M_spec_l4ApartL1 nZ0 aZ0 bZ0 sZ1 = some o) : AWP (OkS Tryz.prog) A127L3 (qL [3, 4, 5, 7] [3, 4, 5] (S_spec_l4ApartL1 nZ0 aZ0 bZ0) (qS (qX 0 [] [] (SX_spec_l4ApartL1)) (qR V127 (fun r => .b r))) o) (S_spec_l4ApartL1 nZ0 aZ0 bZ0 sZ1) := by
  unfold M_spec_l4ApartL1 at h
  simp only [ZC, S_spec_l4ApartL1, A127L3]
  obtain ⟨cZ2, h⟩ | ⟨cZ2, h⟩ := cond_s h
  · obtain ⟨oZ15, hoZ15, h⟩ := bind_s h
    try refine ZF cZ2 ?_
    refine join_rule (sh := (fun v => ⟨[(3, .pt 3 0 0), (4, .pt 4 0 0), (5, .pt 5 0 0), (7, .i sZ1)], [(3, .var (.agg [.lst .o 1 (nZ0.Nodes.map AV.z), .lst .o 4 (nZ0.Fibers.map (e_TFiber .o))])), (4, .var (.agg [.i aZ0.Start, .lst .o 1 (aZ0.Fibers.map AV.i)])), (5, .var (.agg [.i bZ0.Start, .lst .o 1 (bZ0.Fibers.map AV.i)]))]⟩)) (q := (qR V127 (fun r => .b r))) (o := oZ15) ?_ (fun vZ16 hv => ?_) (fun xZ17 hv e τ hne hq => ?_)
    · replace h := hoZ15
      obtain ⟨yZ3, hyZ3, h⟩ := bind_s h
      obtain ⟨hyZ3a, hyZ3b⟩ := geti_s hyZ3
      obtain ⟨rZ4, hrZ4, h⟩ := bind_s h
      refine ZF (ZA cZ2 (ZA hyZ3a hyZ3b)) ?_
      refine ZU (ZA cZ2 (ZA hyZ3a hyZ3b)) (w_spec_l2Group _ _ hrZ4) ?_
      refine ZG ?_
      obtain ⟨oZ10, hoZ10, h⟩ := bind_s h
      try refine ZF (ZA cZ2 (ZA hyZ3a hyZ3b)) ?_
      first | refine tail_rule (o := oZ10) (blk_rule sideR (loop_rule (w_spec_l4ApartL2 nZ0 aZ0 bZ0 sZ1 rZ4) hoZ10 ?_)) (fun vZ11 hv τ qZ13 => ?_) (fun xZ12 hv e τ hne hq => ?_) | refine tail_blk (o := oZ10) sideR (loop_rule (w_spec_l4ApartL2 nZ0 aZ0 bZ0 sZ1 rZ4) hoZ10 ?_) (fun vZ11 hv τ qZ13 => ?_) (fun xZ12 hv e τ hne hq => ?_)
      · exact ZK (ZA S_spec_l4ApartL2.eq_1 SX_spec_l4ApartL2.eq_1)
      · subst hv
        simp only [] at h
        cases h
        try refine ZF trivial ?_
        refine ⟨rfl, Shp.sub qZ13 (by decide) (by decide) ?_⟩
        exact ZK SX_spec_l4ApartL2.eq_1
      · subst hv
        simp only [] at h
        obtain ⟨rfl, qZ14⟩ := hq
        cases h
        try refine ZF trivial ?_
        first | exact ⟨by simp, qZ14⟩ | exact ⟨by simp, rfl, qZ14⟩
    · subst hv
      simp only [] at h
      simp only [ZC, A127R2]
      cases h
      exact ZL cZ2 (ZA S_spec_l4ApartL1.eq_1 SX_spec_l4ApartL1.eq_1)
    · subst hv
      simp only [] at h
      obtain ⟨rfl, qZ18⟩ := hq
      cases h
      try refine ZF trivial ?_
      first | exact ⟨by simp, qZ18⟩ | exact ⟨by simp, rfl, qZ18⟩
  · cases h
    exact ZL cZ2 (ZA S_spec_l4ApartL1.eq_1 SX_spec_l4ApartL1.eq_1)
theorem w_spec_l4Apart (nZ0 : TNetwork) (aZ0 : TRoute) (bZ0 : TRoute) {r : Bool} (h : M_spec_l4Apart nZ0 aZ0 bZ0 = some r) : Ok Tryz.prog 127 [.agg [.lst .o 1 (nZ0.Nodes.map AV.z), .lst .o 4 (nZ0.Fibers.map (e_TFiber .o))], .agg [.i aZ0.Start, .lst .o 1 (aZ0.Fibers.map AV.i)], .agg [.i bZ0.Start, .lst .o 1 (bZ0.Fibers.map AV.i)]] ((fun r => .b r) r) := by
  refine ok_of_body hmix m127 rfl ?_
  unfold M_spec_l4Apart at h
  simp only [ZC, A127, V127, body_eq]
  obtain ⟨oZ19, hoZ19, h⟩ := bind_s h
  try refine ZF trivial ?_
  refine join_rule (o := oZ19) (blk_rule sideR (loop_rule (w_spec_l4ApartL1 nZ0 aZ0 bZ0) hoZ19 ?_)) (fun vZ20 hv => ?_) (fun xZ21 hv e τ hne hq => ?_)
  · exact ZK (ZA S_spec_l4ApartL1.eq_1 SX_spec_l4ApartL1.eq_1)
  · subst hv
    simp only [] at h
    simp only [ZC, SX_spec_l4ApartL1, A127R4]
    cases h
    exact ZL trivial V127.eq_1
  · subst hv
    simp only [] at h
    obtain ⟨rfl, qZ22⟩ := hq
    cases h
    exact qZ22
theorem w_spec_l13Service (nZ0 : TNetwork) (sZ0 : TService) {r : Bool} (h : M_spec_l13Service nZ0 sZ0 = some r) : Ok Tryz.prog 89 [.agg [.lst .o 1 (nZ0.Nodes.map AV.z), .lst .o 4 (nZ0.Fibers.map (e_TFiber .o))], .agg [.i sZ0.Id, .i sZ0.Class, .i sZ0.Work.Start, .lst .o 1 (sZ0.Work.Fibers.map AV.i), .i sZ0.WorkBlock.First, .i sZ0.WorkBlock.Count, .i sZ0.Spare.Start, .lst .o 1 (sZ0.Spare.Fibers.map AV.i), .i sZ0.SpareBlock.First, .i sZ0.SpareBlock.Count]] ((fun r => .b r) r) := by
  refine ok_of_body hmix m89 rfl ?_
  unfold M_spec_l13Service at h
  simp only [ZC, A89, V89, body_eq]
  obtain ⟨oZ8, hoZ8, h⟩ := bind_s h
  try refine ZF trivial ?_
  refine join_rule0 (sh := (fun v => ⟨[(2, .pt 2 0 0), (3, .pt 3 0 0), (27, .b v)], [(2, .var (.agg [.lst .o 1 (nZ0.Nodes.map AV.z), .lst .o 4 (nZ0.Fibers.map (e_TFiber .o))])), (3, .var (.agg [.i sZ0.Id, .i sZ0.Class, .i sZ0.Work.Start, .lst .o 1 (sZ0.Work.Fibers.map AV.i), .i sZ0.WorkBlock.First, .i sZ0.WorkBlock.Count, .i sZ0.Spare.Start, .lst .o 1 (sZ0.Spare.Fibers.map AV.i), .i sZ0.SpareBlock.First, .i sZ0.SpareBlock.Count]))]⟩)) (s := oZ8) ?_ ?_
  · replace h := hoZ8
    obtain ⟨rZ1, hrZ1, h⟩ := bind_s h
    refine ZF trivial ?_
    refine ZS trivial (w_spec_l1In _ _ _ hrZ1) ?_
    refine ZG ?_
    obtain ⟨cZ2, h⟩ | ⟨cZ2, h⟩ := cond_s h
    · cases h
      exact ZL cZ2 trivial
    · obtain ⟨rZ3, hrZ3, h⟩ := bind_s h
      refine ZF cZ2 ?_
      refine ZS cZ2 (w_spec_l1In _ _ _ hrZ3) ?_
      refine ZG ?_
      obtain ⟨cZ4, h⟩ | ⟨cZ4, h⟩ := cond_s h
      · cases h
        exact ZL (ZA cZ2 cZ4) trivial
      · obtain ⟨rZ5, hrZ5, h⟩ := bind_s h
        refine ZF (ZA cZ2 cZ4) ?_
        refine ZS (ZA cZ2 cZ4) (w_spec_l4Good _ _ hrZ5) ?_
        refine ZG ?_
        obtain ⟨cZ6, h⟩ | ⟨cZ6, h⟩ := cond_s h
        · cases h
          exact ZL (ZA cZ2 (ZA cZ4 cZ6)) trivial
        · obtain ⟨rZ7, hrZ7, h⟩ := bind_s h
          refine ZF (ZA cZ2 (ZA cZ4 cZ6)) ?_
          refine ZS (ZA cZ2 (ZA cZ4 cZ6)) (w_spec_l8Good _ hrZ7) ?_
          refine ZG ?_
          cases h
          exact ZL (ZA cZ2 (ZA cZ4 cZ6)) trivial
  · simp only [ZC, A89R1]
    obtain ⟨cZ9, h⟩ | ⟨cZ9, h⟩ := cond_s h
    · cases h
      exact ZL cZ9 V89.eq_1
    · obtain ⟨cZ10, h⟩ | ⟨cZ10, h⟩ := cond_s h
      · obtain ⟨oZ13, hoZ13, h⟩ := bind_s h
        try refine ZF (ZA cZ9 cZ10) ?_
        refine join_rule0 (sh := (fun v => ⟨[(4, .b v)], []⟩)) (s := oZ13) ?_ ?_
        · replace h := hoZ13
          obtain ⟨cZ11, h⟩ | ⟨cZ11, h⟩ := cond_s h
          · obtain ⟨cZ12, h⟩ | ⟨cZ12, h⟩ := cond_s h
            · cases h
              exact ZL (ZA cZ9 (ZA cZ10 (ZA cZ11 cZ12))) trivial
            · cases h
              exact ZL (ZA cZ9 (ZA cZ10 (ZA cZ11 cZ12))) trivial
          · cases h
            exact ZL (ZA cZ9 (ZA cZ10 cZ11)) trivial
        · simp only [ZC, A89R2]
          cases h
          exact ZL (ZA cZ9 cZ10) V89.eq_1
      · obtain ⟨rZ14, hrZ14, h⟩ := bind_s h
        refine ZF (ZA cZ9 cZ10) ?_
        refine ZS (ZA cZ9 cZ10) (w_spec_l4Good _ _ hrZ14) ?_
        refine ZG ?_
        obtain ⟨cZ15, h⟩ | ⟨cZ15, h⟩ := cond_s h
        · obtain ⟨rZ16, hrZ16, h⟩ := bind_s h
          refine ZF (ZA cZ9 (ZA cZ10 cZ15)) ?_
          refine ZS (ZA cZ9 (ZA cZ10 cZ15)) (w_spec_l8Good _ hrZ16) ?_
          refine ZG ?_
          obtain ⟨cZ17, h⟩ | ⟨cZ17, h⟩ := cond_s h
          · obtain ⟨cZ18, h⟩ | ⟨cZ18, h⟩ := cond_s h
            · obtain ⟨rZ19, hrZ19, h⟩ := bind_s h
              refine ZF (ZA cZ9 (ZA cZ10 (ZA cZ15 (ZA cZ17 cZ18)))) ?_
              refine ZS (ZA cZ9 (ZA cZ10 (ZA cZ15 (ZA cZ17 cZ18)))) (w_spec_l4End _ _ hrZ19) ?_
              refine ZG ?_
              obtain ⟨rZ20, hrZ20, h⟩ := bind_s h
              refine ZF (ZA cZ9 (ZA cZ10 (ZA cZ15 (ZA cZ17 cZ18)))) ?_
              refine ZS (ZA cZ9 (ZA cZ10 (ZA cZ15 (ZA cZ17 cZ18)))) (w_spec_l4End _ _ hrZ20) ?_
              refine ZG ?_
              obtain ⟨cZ21, h⟩ | ⟨cZ21, h⟩ := cond_s h
              · obtain ⟨rZ22, hrZ22, h⟩ := bind_s h
                refine ZF (ZA cZ9 (ZA cZ10 (ZA cZ15 (ZA cZ17 (ZA cZ18 cZ21))))) ?_
                refine ZS (ZA cZ9 (ZA cZ10 (ZA cZ15 (ZA cZ17 (ZA cZ18 cZ21))))) (w_spec_l4Apart _ _ _ hrZ22) ?_
                refine ZG ?_
                cases h
                exact ZL (ZA cZ9 (ZA cZ10 (ZA cZ15 (ZA cZ17 (ZA cZ18 cZ21))))) V89.eq_1
              · cases h
                exact ZL (ZA cZ9 (ZA cZ10 (ZA cZ15 (ZA cZ17 (ZA cZ18 cZ21))))) V89.eq_1
            · cases h
              exact ZL (ZA cZ9 (ZA cZ10 (ZA cZ15 (ZA cZ17 cZ18)))) V89.eq_1
          · cases h
            exact ZL (ZA cZ9 (ZA cZ10 (ZA cZ15 cZ17))) V89.eq_1
        · cases h
          exact ZL (ZA cZ9 (ZA cZ10 cZ15)) V89.eq_1
def S_spec_l4UsesL1 (rZ0 : TRoute) (groupZ0 : List Int) (v : Int) : St := ⟨[(1, .lst .o 1 (groupZ0.map AV.i)), (2, .pt 2 0 0), (5, .i v)], [(2, .var (.agg [.i rZ0.Start, .lst .o 1 (rZ0.Fibers.map AV.i)]))]⟩
def SX_spec_l4UsesL1 (v : Unit) : St := ⟨[], []⟩
theorem w_spec_l4UsesL1 (rZ0 : TRoute) (groupZ0 : List Int) (sZ1 : Int) (o : Int ⊕ (Unit ⊕ Bool)) (h : M_spec_l4UsesL1 rZ0 groupZ0 sZ1 = some o) : AWP (OkS Tryz.prog) A110L1 (qL [1, 2, 5] [2] (S_spec_l4UsesL1 rZ0 groupZ0) (qS (qX 0 [] [] (SX_spec_l4UsesL1)) (qR V110 (fun r => .b r))) o) (S_spec_l4UsesL1 rZ0 groupZ0 sZ1) := by
  unfold M_spec_l4UsesL1 at h
  simp only [ZC, S_spec_l4UsesL1, A110L1]
  obtain ⟨cZ2, h⟩ | ⟨cZ2, h⟩ := cond_s h
  · obtain ⟨yZ3, hyZ3, h⟩ := bind_s h
    obtain ⟨hyZ3a, hyZ3b⟩ := geti_s hyZ3
    obtain ⟨rZ4, hrZ4, h⟩ := bind_s h
    refine ZF (ZA cZ2 (ZA hyZ3a hyZ3b)) ?_
    refine ZS (ZA cZ2 (ZA hyZ3a hyZ3b)) (w_spec_l1Has _ _ hrZ4) ?_
    refine ZG ?_
    obtain ⟨cZ5, h⟩ | ⟨cZ5, h⟩ := cond_s h
    · cases h
      exact ZL (ZA cZ2 (ZA hyZ3a (ZA hyZ3b cZ5))) V110.eq_1
    · cases h
      exact ZL (ZA cZ2 (ZA hyZ3a (ZA hyZ3b cZ5))) (ZA S_spec_l4UsesL1.eq_1 SX_spec_l4UsesL1.eq_1)
  · cases h
    exact ZL cZ2 (ZA S_spec_l4UsesL1.eq_1 SX_spec_l4UsesL1.eq_1)
theorem w_spec_l4Uses (rZ0 : TRoute) (groupZ0 : List Int) {r : Bool} (h : M_spec_l4Uses rZ0 groupZ0 = some r) : Ok Tryz.prog 110 [.agg [.i rZ0.Start, .lst .o 1 (rZ0.Fibers.map AV.i)], .lst .o 1 (groupZ0.map AV.i)] ((fun r => .b r) r) := by
  refine ok_of_body hmix m110 rfl ?_
  unfold M_spec_l4Uses at h
  simp only [ZC, A110, V110, body_eq]
  obtain ⟨oZ6, hoZ6, h⟩ := bind_s h
  try refine ZF trivial ?_
  refine join_rule (o := oZ6) (blk_rule sideR (loop_rule (w_spec_l4UsesL1 rZ0 groupZ0) hoZ6 ?_)) (fun vZ7 hv => ?_) (fun xZ8 hv e τ hne hq => ?_)
  · exact ZK (ZA S_spec_l4UsesL1.eq_1 SX_spec_l4UsesL1.eq_1)
  · subst hv
    simp only [] at h
    simp only [ZC, SX_spec_l4UsesL1, A110R2]
    cases h
    exact ZL trivial V110.eq_1
  · subst hv
    simp only [] at h
    obtain ⟨rfl, qZ9⟩ := hq
    cases h
    exact qZ9
theorem w_spec_l8Bits (bZ0 : TBlock) {r : Int} (h : M_spec_l8Bits bZ0 = some r) : Ok Tryz.prog 78 [.agg [.i bZ0.First, .i bZ0.Count]] ((fun r => .i r) r) := by
  refine ok_of_body hmix m78 rfl ?_
  unfold M_spec_l8Bits at h
  simp only [ZC, A78, V78, body_eq]
  obtain ⟨uZ1, huZ1, h⟩ := bind_s h
  have huZ1g := grd_s huZ1
  obtain ⟨uZ2, huZ2, h⟩ := bind_s h
  have huZ2g := grd_s huZ2
  cases h
  exact ZL (ZA huZ1g huZ2g) V78.eq_1
theorem w_spec_l13Clash (aZ0 : TRoute) (xZ0 : TBlock) (bZ0 : TRoute) (yZ0 : TBlock) {r : Bool} (h : M_spec_l13Clash aZ0 xZ0 bZ0 yZ0 = some r) : Ok Tryz.prog 111 [.agg [.i aZ0.Start, .lst .o 1 (aZ0.Fibers.map AV.i)], .agg [.i xZ0.First, .i xZ0.Count], .agg [.i bZ0.Start, .lst .o 1 (bZ0.Fibers.map AV.i)], .agg [.i yZ0.First, .i yZ0.Count]] ((fun r => .b r) r) := by
  refine ok_of_body hmix m111 rfl ?_
  unfold M_spec_l13Clash at h
  simp only [ZC, A111, V111, body_eq]
  obtain ⟨rZ1, hrZ1, h⟩ := bind_s h
  refine ZF trivial ?_
  refine ZS trivial (w_spec_l4Uses _ _ hrZ1) ?_
  refine ZG ?_
  obtain ⟨cZ2, h⟩ | ⟨cZ2, h⟩ := cond_s h
  · obtain ⟨cZ3, h⟩ | ⟨cZ3, h⟩ := cond_s h
    · obtain ⟨cZ4, h⟩ | ⟨cZ4, h⟩ := cond_s h
      · obtain ⟨rZ5, hrZ5, h⟩ := bind_s h
        refine ZF (ZA cZ2 (ZA cZ3 cZ4)) ?_
        refine ZS (ZA cZ2 (ZA cZ3 cZ4)) (w_spec_l8Bits _ hrZ5) ?_
        refine ZG ?_
        obtain ⟨rZ6, hrZ6, h⟩ := bind_s h
        refine ZF (ZA cZ2 (ZA cZ3 cZ4)) ?_
        refine ZS (ZA cZ2 (ZA cZ3 cZ4)) (w_spec_l8Bits _ hrZ6) ?_
        refine ZG ?_
        cases h
        exact ZL (ZA cZ2 (ZA cZ3 cZ4)) V111.eq_1
      · cases h
        exact ZL (ZA cZ2 (ZA cZ3 cZ4)) V111.eq_1
    · cases h
      exact ZL (ZA cZ2 cZ3) V111.eq_1
  · cases h
    exact ZL cZ2 V111.eq_1
theorem w_spec_l13Compatible (nZ0 : TNetwork) (aZ0 : TService) (bZ0 : TService) {r : Bool} (h : M_spec_l13Compatible nZ0 aZ0 bZ0 = some r) : Ok Tryz.prog 90 [.agg [.lst .o 1 (nZ0.Nodes.map AV.z), .lst .o 4 (nZ0.Fibers.map (e_TFiber .o))], .agg [.i aZ0.Id, .i aZ0.Class, .i aZ0.Work.Start, .lst .o 1 (aZ0.Work.Fibers.map AV.i), .i aZ0.WorkBlock.First, .i aZ0.WorkBlock.Count, .i aZ0.Spare.Start, .lst .o 1 (aZ0.Spare.Fibers.map AV.i), .i aZ0.SpareBlock.First, .i aZ0.SpareBlock.Count], .agg [.i bZ0.Id, .i bZ0.Class, .i bZ0.Work.Start, .lst .o 1 (bZ0.Work.Fibers.map AV.i), .i bZ0.WorkBlock.First, .i bZ0.WorkBlock.Count, .i bZ0.Spare.Start, .lst .o 1 (bZ0.Spare.Fibers.map AV.i), .i bZ0.SpareBlock.First, .i bZ0.SpareBlock.Count]] ((fun r => .b r) r) := by
  refine ok_of_body hmix m90 rfl ?_
  unfold M_spec_l13Compatible at h
  simp only [ZC, A90, V90, body_eq]
  obtain ⟨oZ6, hoZ6, h⟩ := bind_s h
  try refine ZF trivial ?_
  refine join_rule0 (sh := (fun v => ⟨[(3, .pt 3 0 0), (4, .pt 4 0 0), (5, .pt 5 0 0), (37, .b v)], [(3, .var (.agg [.lst .o 1 (nZ0.Nodes.map AV.z), .lst .o 4 (nZ0.Fibers.map (e_TFiber .o))])), (4, .var (.agg [.i aZ0.Id, .i aZ0.Class, .i aZ0.Work.Start, .lst .o 1 (aZ0.Work.Fibers.map AV.i), .i aZ0.WorkBlock.First, .i aZ0.WorkBlock.Count, .i aZ0.Spare.Start, .lst .o 1 (aZ0.Spare.Fibers.map AV.i), .i aZ0.SpareBlock.First, .i aZ0.SpareBlock.Count])), (5, .var (.agg [.i bZ0.Id, .i bZ0.Class, .i bZ0.Work.Start, .lst .o 1 (bZ0.Work.Fibers.map AV.i), .i bZ0.WorkBlock.First, .i bZ0.WorkBlock.Count, .i bZ0.Spare.Start, .lst .o 1 (bZ0.Spare.Fibers.map AV.i), .i bZ0.SpareBlock.First, .i bZ0.SpareBlock.Count]))]⟩)) (s := oZ6) ?_ ?_
  · replace h := hoZ6
    obtain ⟨rZ1, hrZ1, h⟩ := bind_s h
    refine ZF trivial ?_
    refine ZS trivial (w_spec_l13Clash _ _ _ _ hrZ1) ?_
    refine ZG ?_
    obtain ⟨cZ2, h⟩ | ⟨cZ2, h⟩ := cond_s h
    · cases h
      exact ZL cZ2 trivial
    · obtain ⟨rZ3, hrZ3, h⟩ := bind_s h
      refine ZF cZ2 ?_
      refine ZS cZ2 (w_spec_l13Clash _ _ _ _ hrZ3) ?_
      refine ZG ?_
      obtain ⟨cZ4, h⟩ | ⟨cZ4, h⟩ := cond_s h
      · cases h
        exact ZL (ZA cZ2 cZ4) trivial
      · obtain ⟨rZ5, hrZ5, h⟩ := bind_s h
        refine ZF (ZA cZ2 cZ4) ?_
        refine ZS (ZA cZ2 cZ4) (w_spec_l13Clash _ _ _ _ hrZ5) ?_
        refine ZG ?_
        cases h
        exact ZL (ZA cZ2 cZ4) trivial
  · simp only [ZC, A90R1]
    obtain ⟨cZ7, h⟩ | ⟨cZ7, h⟩ := cond_s h
    · cases h
      exact ZL cZ7 V90.eq_1
    · obtain ⟨oZ11, hoZ11, h⟩ := bind_s h
      try refine ZF cZ7 ?_
      refine join_rule0 (sh := (fun v => ⟨[(4, .pt 4 0 0), (5, .pt 5 0 0), (53, .b v)], [(4, .var (.agg [.i aZ0.Id, .i aZ0.Class, .i aZ0.Work.Start, .lst .o 1 (aZ0.Work.Fibers.map AV.i), .i aZ0.WorkBlock.First, .i aZ0.WorkBlock.Count, .i aZ0.Spare.Start, .lst .o 1 (aZ0.Spare.Fibers.map AV.i), .i aZ0.SpareBlock.First, .i aZ0.SpareBlock.Count])), (5, .var (.agg [.i bZ0.Id, .i bZ0.Class, .i bZ0.Work.Start, .lst .o 1 (bZ0.Work.Fibers.map AV.i), .i bZ0.WorkBlock.First, .i bZ0.WorkBlock.Count, .i bZ0.Spare.Start, .lst .o 1 (bZ0.Spare.Fibers.map AV.i), .i bZ0.SpareBlock.First, .i bZ0.SpareBlock.Count]))]⟩)) (s := oZ11) ?_ ?_
      · replace h := hoZ11
        obtain ⟨cZ8, h⟩ | ⟨cZ8, h⟩ := cond_s h
        · obtain ⟨cZ9, h⟩ | ⟨cZ9, h⟩ := cond_s h
          · obtain ⟨rZ10, hrZ10, h⟩ := bind_s h
            refine ZF (ZA cZ7 (ZA cZ8 cZ9)) ?_
            refine ZS (ZA cZ7 (ZA cZ8 cZ9)) (w_spec_l4Apart _ _ _ hrZ10) ?_
            refine ZG ?_
            cases h
            exact ZL (ZA cZ7 (ZA cZ8 cZ9)) trivial
          · cases h
            exact ZL (ZA cZ7 (ZA cZ8 cZ9)) trivial
        · cases h
          exact ZL (ZA cZ7 cZ8) trivial
      · simp only [ZC, A90R2]
        obtain ⟨cZ12, h⟩ | ⟨cZ12, h⟩ := cond_s h
        · cases h
          exact ZL (ZA cZ7 cZ12) V90.eq_1
        · obtain ⟨rZ13, hrZ13, h⟩ := bind_s h
          refine ZF (ZA cZ7 cZ12) ?_
          refine ZS (ZA cZ7 cZ12) (w_spec_l13Clash _ _ _ _ hrZ13) ?_
          refine ZG ?_
          cases h
          exact ZL (ZA cZ7 cZ12) V90.eq_1
def S_spec_l13GoodL2 (nZ0 : TNetwork) (listZ0 : List TService) (sZ5 : Int) (v : Int) : St := ⟨[(1, .lst .o 10 (listZ0.map (e_TService .o))), (2, .pt 2 0 0), (5, .i sZ5), (6, .i v)], [(2, .var (.agg [.lst .o 1 (nZ0.Nodes.map AV.z), .lst .o 4 (nZ0.Fibers.map (e_TFiber .o))]))]⟩
def SX_spec_l13GoodL2 (nZ0 : TNetwork) (listZ0 : List TService) (sZ5 : Int) (v : Unit) : St := ⟨[(1, .lst .o 10 (listZ0.map (e_TService .o))), (2, .pt 2 0 0), (5, .i sZ5)], [(2, .var (.agg [.lst .o 1 (nZ0.Nodes.map AV.z), .lst .o 4 (nZ0.Fibers.map (e_TFiber .o))]))]⟩
theorem w_spec_l13GoodL2 (nZ0 : TNetwork) (listZ0 : List TService) (sZ5 : Int) (sZ14 : Int) (o : Int ⊕ (Unit ⊕ Bool)) (h : M_spec_l13GoodL2 nZ0 listZ0 sZ5 sZ14 = some o) : AWP (OkS Tryz.prog) A46L3 (qL [1, 2, 5, 6] [2] (S_spec_l13GoodL2 nZ0 listZ0 sZ5) (qS (qX 2 [1, 2, 5] [2] (SX_spec_l13GoodL2 nZ0 listZ0 sZ5)) (qR V46 (fun r => .b r))) o) (S_spec_l13GoodL2 nZ0 listZ0 sZ5 sZ14) := by
  unfold M_spec_l13GoodL2 at h
  simp only [ZC, S_spec_l13GoodL2, A46L3]
  obtain ⟨cZ15, h⟩ | ⟨cZ15, h⟩ := cond_s h
  · obtain ⟨yZ16, hyZ16, h⟩ := bind_s h
    obtain ⟨hyZ16a, hyZ16b⟩ := geti_s hyZ16
    obtain ⟨yZ17, hyZ17, h⟩ := bind_s h
    obtain ⟨hyZ17a, hyZ17b⟩ := geti_s hyZ17
    obtain ⟨rZ18, hrZ18, h⟩ := bind_s h
    refine ZF (ZA cZ15 (ZA hyZ16a (ZA hyZ16b (ZA hyZ17a hyZ17b)))) ?_
    refine ZS (ZA cZ15 (ZA hyZ16a (ZA hyZ16b (ZA hyZ17a hyZ17b)))) (w_spec_l13Compatible _ _ _ hrZ18) ?_
    refine ZG ?_
    obtain ⟨cZ19, h⟩ | ⟨cZ19, h⟩ := cond_s h
    · cases h
      exact ZL (ZA cZ15 (ZA hyZ16a (ZA hyZ16b (ZA hyZ17a (ZA hyZ17b cZ19))))) V46.eq_1
    · cases h
      exact ZL (ZA cZ15 (ZA hyZ16a (ZA hyZ16b (ZA hyZ17a (ZA hyZ17b cZ19))))) (ZA S_spec_l13GoodL2.eq_1 SX_spec_l13GoodL2.eq_1)
  · cases h
    exact ZL cZ15 (ZA S_spec_l13GoodL2.eq_1 SX_spec_l13GoodL2.eq_1)
def S_spec_l13GoodL1 (nZ0 : TNetwork) (listZ0 : List TService) (v : Int) : St := ⟨[(1, .lst .o 10 (listZ0.map (e_TService .o))), (2, .pt 2 0 0), (5, .i v)], [(2, .var (.agg [.lst .o 1 (nZ0.Nodes.map AV.z), .lst .o 4 (nZ0.Fibers.map (e_TFiber .o))]))]⟩
def SX_spec_l13GoodL1 (v : Unit) : St := ⟨[], []⟩
theorem w_spec_l13GoodL1 (nZ0 : TNetwork) (listZ0 : List TService) (sZ5 : Int) (o : Int ⊕ (Unit ⊕ Bool)) (h : M_spec_l13GoodL1 nZ0 listZ0 sZ5 = some o) : AWP (OkS Tryz.prog) A46L5 (qL [1, 2, 5] [2] (S_spec_l13GoodL1 nZ0 listZ0) (qS (qX 0 [] [] (SX_spec_l13GoodL1)) (qR V46 (fun r => .b r))) o) (S_spec_l13GoodL1 nZ0 listZ0 sZ5) := by
  unfold M_spec_l13GoodL1 at h
  simp only [ZC, S_spec_l13GoodL1, A46L5]
  obtain ⟨cZ6, h⟩ | ⟨cZ6, h⟩ := cond_s h
  · obtain ⟨oZ25, hoZ25, h⟩ := bind_s h
    try refine ZF cZ6 ?_
    refine join_rule (sh := (fun v => ⟨[(1, .lst .o 10 (listZ0.map (e_TService .o))), (2, .pt 2 0 0), (5, .i sZ5)], [(2, .var (.agg [.lst .o 1 (nZ0.Nodes.map AV.z), .lst .o 4 (nZ0.Fibers.map (e_TFiber .o))]))]⟩)) (q := (qR V46 (fun r => .b r))) (o := oZ25) ?_ (fun vZ26 hv => ?_) (fun xZ27 hv e τ hne hq => ?_)
    · replace h := hoZ25
      obtain ⟨oZ12, hoZ12, h⟩ := bind_s h
      try refine ZF cZ6 ?_
      refine join_rule0 (sh := (fun v => ⟨[(1, .lst .o 10 (listZ0.map (e_TService .o))), (2, .pt 2 0 0), (5, .i sZ5), (45, .b v)], [(2, .var (.agg [.lst .o 1 (nZ0.Nodes.map AV.z), .lst .o 4 (nZ0.Fibers.map (e_TFiber .o))]))]⟩)) (s := oZ12) ?_ ?_
      · replace h := hoZ12
        obtain ⟨yZ7, hyZ7, h⟩ := bind_s h
        obtain ⟨hyZ7a, hyZ7b⟩ := geti_s hyZ7
        obtain ⟨rZ8, hrZ8, h⟩ := bind_s h
        refine ZF (ZA cZ6 (ZA hyZ7a hyZ7b)) ?_
        refine ZS (ZA cZ6 (ZA hyZ7a hyZ7b)) (w_spec_l13Service _ _ hrZ8) ?_
        refine ZG ?_
        obtain ⟨cZ9, h⟩ | ⟨cZ9, h⟩ := cond_s h
        · cases h
          exact ZL (ZA cZ6 (ZA hyZ7a (ZA hyZ7b cZ9))) trivial
        · obtain ⟨cZ10, h⟩ | ⟨cZ10, h⟩ := cond_s h
          · obtain ⟨yZ11, hyZ11, h⟩ := bind_s h
            obtain ⟨hyZ11a, hyZ11b⟩ := geti_s hyZ11
            cases h
            exact ZL (ZA cZ6 (ZA hyZ7a (ZA hyZ7b (ZA cZ9 (ZA cZ10 (ZA hyZ11a hyZ11b)))))) trivial
          · cases h
            exact ZL (ZA cZ6 (ZA hyZ7a (ZA hyZ7b (ZA cZ9 cZ10)))) trivial
      · simp only [ZC, A46R2]
        obtain ⟨cZ13, h⟩ | ⟨cZ13, h⟩ := cond_s h
        · cases h
          exact ZL (ZA cZ6 cZ13) V46.eq_1
        · obtain ⟨oZ20, hoZ20, h⟩ := bind_s h
          try refine ZF (ZA cZ6 cZ13) ?_
          first | refine tail_rule (o := oZ20) (blk_rule sideR (loop_rule (w_spec_l13GoodL2 nZ0 listZ0 sZ5) hoZ20 ?_)) (fun vZ21 hv τ qZ23 => ?_) (fun xZ22 hv e τ hne hq => ?_) | refine tail_blk (o := oZ20) sideR (loop_rule (w_spec_l13GoodL2 nZ0 listZ0 sZ5) hoZ20 ?_) (fun vZ21 hv τ qZ23 => ?_) (fun xZ22 hv e τ hne hq => ?_)
          · exact ZK (ZA S_spec_l13GoodL2.eq_1 SX_spec_l13GoodL2.eq_1)
          · subst hv
            simp only [] at h
            cases h
            try refine ZF trivial ?_
            refine ⟨rfl, Shp.sub qZ23 (by decide) (by decide) ?_⟩
            exact ZK SX_spec_l13GoodL2.eq_1
          · subst hv
            simp only [] at h
            obtain ⟨rfl, qZ24⟩ := hq
            cases h
            try refine ZF trivial ?_
            first | exact ⟨by simp, qZ24⟩ | exact ⟨by simp, rfl, qZ24⟩
    · subst hv
      simp only [] at h
      simp only [ZC, A46R4]
      cases h
      exact ZL cZ6 (ZA S_spec_l13GoodL1.eq_1 SX_spec_l13GoodL1.eq_1)
    · subst hv
      simp only [] at h
      obtain ⟨rfl, qZ28⟩ := hq
      cases h
      try refine ZF trivial ?_
      first | exact ⟨by simp, qZ28⟩ | exact ⟨by simp, rfl, qZ28⟩
  · cases h
    exact ZL cZ6 (ZA S_spec_l13GoodL1.eq_1 SX_spec_l13GoodL1.eq_1)
theorem w_spec_l13Good (nZ0 : TNetwork) (listZ0 : List TService) {r : Bool} (h : M_spec_l13Good nZ0 listZ0 = some r) : Ok Tryz.prog 46 [.agg [.lst .o 1 (nZ0.Nodes.map AV.z), .lst .o 4 (nZ0.Fibers.map (e_TFiber .o))], .lst .o 10 (listZ0.map (e_TService .o))] ((fun r => .b r) r) := by
  refine ok_of_body hmix m46 rfl ?_
  unfold M_spec_l13Good at h
  simp only [ZC, A46, V46, body_eq]
  obtain ⟨oZ3, hoZ3, h⟩ := bind_s h
  try refine ZF trivial ?_
  refine join_rule0 (sh := (fun v => ⟨[(1, .lst .o 10 (listZ0.map (e_TService .o))), (2, .pt 2 0 0), (14, .b v)], [(2, .var (.agg [.lst .o 1 (nZ0.Nodes.map AV.z), .lst .o 4 (nZ0.Fibers.map (e_TFiber .o))]))]⟩)) (s := oZ3) ?_ ?_
  · replace h := hoZ3
    obtain ⟨rZ1, hrZ1, h⟩ := bind_s h
    refine ZF trivial ?_
    refine ZS trivial (w_spec_l2Good _ hrZ1) ?_
    refine ZG ?_
    obtain ⟨cZ2, h⟩ | ⟨cZ2, h⟩ := cond_s h
    · cases h
      exact ZL cZ2 trivial
    · cases h
      exact ZL cZ2 trivial
  · simp only [ZC, A46R1]
    obtain ⟨cZ4, h⟩ | ⟨cZ4, h⟩ := cond_s h
    · cases h
      exact ZL cZ4 V46.eq_1
    · obtain ⟨oZ29, hoZ29, h⟩ := bind_s h
      try refine ZF cZ4 ?_
      refine join_rule (o := oZ29) (blk_rule sideR (loop_rule (w_spec_l13GoodL1 nZ0 listZ0) hoZ29 ?_)) (fun vZ30 hv => ?_) (fun xZ31 hv e τ hne hq => ?_)
      · exact ZK (ZA S_spec_l13GoodL1.eq_1 SX_spec_l13GoodL1.eq_1)
      · subst hv
        simp only [] at h
        simp only [ZC, SX_spec_l13GoodL1, A46R6]
        cases h
        exact ZL cZ4 V46.eq_1
      · subst hv
        simp only [] at h
        obtain ⟨rfl, qZ32⟩ := hq
        cases h
        exact qZ32
def S_spec_l13MasksL1 (listZ0 : List TService) (fiberZ0 : Int) (v : Int × Int × Int) : St := ⟨[(0, .lst .o 10 (listZ0.map (e_TService .o))), (1, .i fiberZ0), (6, .i v.1), (7, .i v.2.1), (8, .i v.2.2)], []⟩
def SX_spec_l13MasksL1 (v : Int × Int) : St := ⟨[(6, .i v.1), (7, .i v.2)], []⟩
theorem w_spec_l13MasksL1 (listZ0 : List TService) (fiberZ0 : Int) (sZ1 : Int × Int × Int) (o : (Int × Int × Int) ⊕ (Int × Int)) (h : M_spec_l13MasksL1 listZ0 fiberZ0 sZ1 = some o) : AWP (OkS Tryz.prog) A47L2 (qL [0, 1, 6, 7, 8] [] (S_spec_l13MasksL1 listZ0 fiberZ0) (qX 0 [6, 7] [] (SX_spec_l13MasksL1)) o) (S_spec_l13MasksL1 listZ0 fiberZ0 sZ1) := by
  unfold M_spec_l13MasksL1 at h
  simp only [ZC, S_spec_l13MasksL1, A47L2]
  obtain ⟨cZ2, h⟩ | ⟨cZ2, h⟩ := cond_s h
  · obtain ⟨oZ7, hoZ7, h⟩ := bind_s h
    try refine ZF cZ2 ?_
    refine join_rule0 (sh := (fun v => ⟨[(0, .lst .o 10 (listZ0.map (e_TService .o))), (1, .i fiberZ0), (6, .i v), (7, .i sZ1.2.1), (8, .i sZ1.2.2)], []⟩)) (s := oZ7) ?_ ?_
    · replace h := hoZ7
      obtain ⟨yZ3, hyZ3, h⟩ := bind_s h
      obtain ⟨hyZ3a, hyZ3b⟩ := geti_s hyZ3
      obtain ⟨rZ4, hrZ4, h⟩ := bind_s h
      refine ZF (ZA cZ2 (ZA hyZ3a hyZ3b)) ?_
      refine ZS (ZA cZ2 (ZA hyZ3a hyZ3b)) (w_spec_l1Has _ _ hrZ4) ?_
      refine ZG ?_
      obtain ⟨cZ5, h⟩ | ⟨cZ5, h⟩ := cond_s h
      · obtain ⟨rZ6, hrZ6, h⟩ := bind_s h
        refine ZF (ZA cZ2 (ZA hyZ3a (ZA hyZ3b cZ5))) ?_
        refine ZS (ZA cZ2 (ZA hyZ3a (ZA hyZ3b cZ5))) (w_spec_l8Bits _ hrZ6) ?_
        refine ZG ?_
        cases h
        exact ZL (ZA cZ2 (ZA hyZ3a (ZA hyZ3b cZ5))) trivial
      · cases h
        exact ZL (ZA cZ2 (ZA hyZ3a (ZA hyZ3b cZ5))) trivial
    · simp only [ZC, A47R1]
      obtain ⟨yZ8, hyZ8, h⟩ := bind_s h
      obtain ⟨hyZ8a, hyZ8b⟩ := geti_s hyZ8
      obtain ⟨rZ9, hrZ9, h⟩ := bind_s h
      refine ZF (ZA cZ2 (ZA hyZ8a hyZ8b)) ?_
      refine ZS (ZA cZ2 (ZA hyZ8a hyZ8b)) (w_spec_l1Has _ _ hrZ9) ?_
      refine ZG ?_
      obtain ⟨cZ10, h⟩ | ⟨cZ10, h⟩ := cond_s h
      · obtain ⟨rZ11, hrZ11, h⟩ := bind_s h
        refine ZF (ZA cZ2 (ZA hyZ8a (ZA hyZ8b cZ10))) ?_
        refine ZS (ZA cZ2 (ZA hyZ8a (ZA hyZ8b cZ10))) (w_spec_l8Bits _ hrZ11) ?_
        refine ZG ?_
        cases h
        exact ZL (ZA cZ2 (ZA hyZ8a (ZA hyZ8b cZ10))) (ZA S_spec_l13MasksL1.eq_1 SX_spec_l13MasksL1.eq_1)
      · cases h
        exact ZL (ZA cZ2 (ZA hyZ8a (ZA hyZ8b cZ10))) (ZA S_spec_l13MasksL1.eq_1 SX_spec_l13MasksL1.eq_1)
  · cases h
    exact ZL cZ2 (ZA S_spec_l13MasksL1.eq_1 SX_spec_l13MasksL1.eq_1)
theorem w_spec_l13Masks (listZ0 : List TService) (fiberZ0 : Int) {r : Int × Int} (h : M_spec_l13Masks listZ0 fiberZ0 = some r) : Ok Tryz.prog 47 [.lst .o 10 (listZ0.map (e_TService .o)), .i fiberZ0] ((fun r => .tup [.i r.1, .i r.2]) r) := by
  refine ok_of_body hmix m47 rfl ?_
  unfold M_spec_l13Masks at h
  simp only [ZC, A47, V47, body_eq]
  obtain ⟨oZ12, hoZ12, h⟩ := bind_s h
  try refine ZF trivial ?_
  refine join_rule0 (blk_rule0 (loop_rule (w_spec_l13MasksL1 listZ0 fiberZ0) hoZ12 ?_)) ?_
  · exact ZK (ZA S_spec_l13MasksL1.eq_1 SX_spec_l13MasksL1.eq_1)
  · simp only [ZC, SX_spec_l13MasksL1, A47R3]
    cases h
    exact ZL trivial V47.eq_1
def S_spec_ServiceMasksL1 (nZ0 : TNetwork) (listZ0 : List TService) (v : Int × List Int × List Int) : St := ⟨[(1, .lst .o 10 (listZ0.map (e_TService .o))), (2, .pt 2 0 0), (7, .sl 7 0 v.2.1.length), (8, .sl 8 0 v.2.2.length), (9, .i v.1)], [(2, .var (.agg [.lst .o 1 (nZ0.Nodes.map AV.z), .lst .o 4 (nZ0.Fibers.map (e_TFiber .o))])), (7, .arr 1 (v.2.1.map AV.i)), (8, .arr 1 (v.2.2.map AV.i))]⟩
def SX_spec_ServiceMasksL1 (v : List Int × List Int) : St := ⟨[(7, .sl 7 0 v.1.length), (8, .sl 8 0 v.2.length)], [(7, .arr 1 (v.1.map AV.i)), (8, .arr 1 (v.2.map AV.i))]⟩
theorem w_spec_ServiceMasksL1 (nZ0 : TNetwork) (listZ0 : List TService) (sZ3 : Int × List Int × List Int) (o : (Int × List Int × List Int) ⊕ (List Int × List Int)) (h : M_spec_ServiceMasksL1 nZ0 listZ0 sZ3 = some o) : AWP (OkS Tryz.prog) A14L1 (qL [1, 2, 7, 8, 9] [2, 7, 8] (S_spec_ServiceMasksL1 nZ0 listZ0) (qX 0 [7, 8] [7, 8] (SX_spec_ServiceMasksL1)) o) (S_spec_ServiceMasksL1 nZ0 listZ0 sZ3) := by
  unfold M_spec_ServiceMasksL1 at h
  simp only [ZC, S_spec_ServiceMasksL1, A14L1]
  obtain ⟨cZ4, h⟩ | ⟨cZ4, h⟩ := cond_s h
  · obtain ⟨rZ5, hrZ5, h⟩ := bind_s h
    refine ZF cZ4 ?_
    refine ZU cZ4 (w_spec_l13Masks _ _ hrZ5) ?_
    refine ZG ?_
    obtain ⟨lZ6, hlZ6, h⟩ := bnd_s h
    have eZ7 : Row.arr 1 [(.i rZ5.1 : AV)] = Row.arr 1 (lZ6.map AV.i) := by rw [← hlZ6]; rfl
    have jjZ8 : lZ6.length = 1 := by rw [← hlZ6]; rfl
    obtain ⟨uZ9, huZ9, h⟩ := bind_s h
    have huZ9g := grd_s huZ9
    obtain ⟨lZ10, hlZ10, h⟩ := bnd_s h
    have eZ11 : sZ3.2.1.map AV.i ++ lZ6.map AV.i = lZ10.map AV.i := by rw [← hlZ10, List.map_append]
    have eZ12 : sZ3.2.1.length + 1 = lZ10.length := by simp [← hlZ6, ← hlZ10] <;> omega
    rw [eZ12] at huZ9g
    obtain ⟨lZ13, hlZ13, h⟩ := bnd_s h
    have eZ14 : Row.arr 1 [(.i rZ5.2 : AV)] = Row.arr 1 (lZ13.map AV.i) := by rw [← hlZ13]; rfl
    have jjZ15 : lZ13.length = 1 := by rw [← hlZ13]; rfl
    obtain ⟨uZ16, huZ16, h⟩ := bind_s h
    have huZ16g := grd_s huZ16
    obtain ⟨lZ17, hlZ17, h⟩ := bnd_s h
    have eZ18 : sZ3.2.2.map AV.i ++ lZ13.map AV.i = lZ17.map AV.i := by rw [← hlZ17, List.map_append]
    have eZ19 : sZ3.2.2.length + 1 = lZ17.length := by simp [← hlZ6, ← hlZ10, ← hlZ13, ← hlZ17] <;> omega
    rw [eZ19] at huZ16g
    cases h
    exact ZL (ZA cZ4 (ZA eZ7 (ZA jjZ8 (ZA huZ9g (ZA eZ11 (ZA eZ12 (ZA eZ14 (ZA jjZ15 (ZA huZ16g (ZA eZ18 eZ19)))))))))) (ZA S_spec_ServiceMasksL1.eq_1 (ZA SX_spec_ServiceMasksL1.eq_1 (ZA hlZ6.symm (ZA hlZ10.symm (ZA hlZ13.symm (ZA hlZ17.symm (ZA jjZ8 jjZ15)))))))
  · cases h
    exact ZL cZ4 (ZA S_spec_ServiceMasksL1.eq_1 SX_spec_ServiceMasksL1.eq_1)
theorem w_spec_ServiceMasks (nZ0 : TNetwork) (listZ0 : List TService) {r : List Int × List Int × Bool} (h : M_spec_ServiceMasks nZ0 listZ0 = some r) : Ok Tryz.prog 14 [.agg [.lst .o 1 (nZ0.Nodes.map AV.z), .lst .o 4 (nZ0.Fibers.map (e_TFiber .o))], .lst .o 10 (listZ0.map (e_TService .o))] ((fun r => .tup [.lst .u 1 (r.1.map AV.i), .lst .u 1 (r.2.1.map AV.i), .b r.2.2]) r) := by
  refine ok_of_body hmix m14 rfl ?_
  unfold M_spec_ServiceMasks at h
  simp only [ZC, A14, V14, body_eq]
  obtain ⟨rZ1, hrZ1, h⟩ := bind_s h
  refine ZF trivial ?_
  refine ZS trivial (w_spec_l13Good _ _ hrZ1) ?_
  refine ZG ?_
  obtain ⟨cZ2, h⟩ | ⟨cZ2, h⟩ := cond_s h
  · cases h
    exact ZL cZ2 V14.eq_1
  · obtain ⟨oZ20, hoZ20, h⟩ := bind_s h
    try refine ZF cZ2 ?_
    refine join_rule0 (blk_rule0 (loop_rule (w_spec_ServiceMasksL1 nZ0 listZ0) hoZ20 ?_)) ?_
    · exact ZK (ZA S_spec_ServiceMasksL1.eq_1 SX_spec_ServiceMasksL1.eq_1)
    · simp only [ZC, SX_spec_ServiceMasksL1, A14R2]
      cases h
      exact ZL cZ2 V14.eq_1
theorem w_impl_within (nZ0 : Int) (lowZ0 : Int) (highZ0 : Int) {r : Bool} (h : M_impl_within nZ0 lowZ0 highZ0 = some r) : Ok Tryz.prog 84 [.i nZ0, .i lowZ0, .i highZ0] ((fun r => .b r) r) := by
  refine ok_of_body hmix m84 rfl ?_
  unfold M_impl_within at h
  simp only [ZC, A84, V84, body_eq]
  obtain ⟨cZ1, h⟩ | ⟨cZ1, h⟩ := cond_s h
  · cases h
    exact ZL cZ1 V84.eq_1
  · cases h
    exact ZL cZ1 V84.eq_1
def S_impl_isNameL1 (sZ0 : ByteArray) (v : Int) : St := ⟨[(0, .z sZ0), (7, .i (sZ0.size : Int)), (8, .i v)], []⟩
def SX_impl_isNameL1 (sZ0 : ByteArray) (v : Unit) : St := ⟨[(0, .z sZ0)], []⟩
theorem w_impl_isNameL1 (sZ0 : ByteArray) (sZ1 : Int) (o : Int ⊕ (Unit ⊕ Bool)) (h : M_impl_isNameL1 sZ0 sZ1 = some o) : AWP (OkS Tryz.prog) A128L2 (qL [0, 7, 8] [] (S_impl_isNameL1 sZ0) (qS (qX 0 [0] [] (SX_impl_isNameL1 sZ0)) (qR V128 (fun r => .b r))) o) (S_impl_isNameL1 sZ0 sZ1) := by
  unfold M_impl_isNameL1 at h
  simp only [ZC, S_impl_isNameL1, A128L2]
  obtain ⟨cZ2, h⟩ | ⟨cZ2, h⟩ := cond_s h
  · obtain ⟨oZ7, hoZ7, h⟩ := bind_s h
    try refine ZF cZ2 ?_
    refine join_rule0 (sh := (fun v => ⟨[(0, .z sZ0), (3, .i sZ1), (4, .b v.1), (5, .b v.2), (7, .i (sZ0.size : Int)), (8, .i sZ1)], []⟩)) (s := oZ7) ?_ ?_
    · replace h := hoZ7
      obtain ⟨yZ3, hyZ3, h⟩ := bind_s h
      obtain ⟨hyZ3a, hyZ3b⟩ := getz_s hyZ3
      obtain ⟨cZ4, h⟩ | ⟨cZ4, h⟩ := cond_s h
      · obtain ⟨cZ5, h⟩ | ⟨cZ5, h⟩ := cond_s h
        · cases h
          exact ZL (ZA cZ2 (ZA hyZ3a (ZA hyZ3b (ZA cZ4 cZ5)))) trivial
        · cases h
          exact ZL (ZA cZ2 (ZA hyZ3a (ZA hyZ3b (ZA cZ4 cZ5)))) trivial
      · obtain ⟨cZ6, h⟩ | ⟨cZ6, h⟩ := cond_s h
        · cases h
          exact ZL (ZA cZ2 (ZA hyZ3a (ZA hyZ3b (ZA cZ4 cZ6)))) trivial
        · cases h
          exact ZL (ZA cZ2 (ZA hyZ3a (ZA hyZ3b (ZA cZ4 cZ6)))) trivial
    · simp only [ZC, A128R1]
      obtain ⟨cZ8, h⟩ | ⟨cZ8, h⟩ := cond_s h
      · obtain ⟨cZ9, h⟩ | ⟨cZ9, h⟩ := cond_s h
        · cases h
          exact ZL (ZA cZ2 (ZA cZ8 cZ9)) V128.eq_1
        · obtain ⟨cZ10, h⟩ | ⟨cZ10, h⟩ := cond_s h
          · cases h
            exact ZL (ZA cZ2 (ZA cZ8 (ZA cZ9 cZ10))) V128.eq_1
          · cases h
            exact ZL (ZA cZ2 (ZA cZ8 (ZA cZ9 cZ10))) (ZA S_impl_isNameL1.eq_1 SX_impl_isNameL1.eq_1)
      · cases h
        exact ZL (ZA cZ2 cZ8) (ZA S_impl_isNameL1.eq_1 SX_impl_isNameL1.eq_1)
  · cases h
    exact ZL cZ2 (ZA S_impl_isNameL1.eq_1 SX_impl_isNameL1.eq_1)
theorem w_impl_isName (sZ0 : ByteArray) {r : Bool} (h : M_impl_isName sZ0 = some r) : Ok Tryz.prog 128 [.z sZ0] ((fun r => .b r) r) := by
  refine ok_of_body hmix m128 rfl ?_
  unfold M_impl_isName at h
  simp only [ZC, A128, V128, body_eq]
  obtain ⟨oZ11, hoZ11, h⟩ := bind_s h
  try refine ZF trivial ?_
  refine join_rule (o := oZ11) (blk_rule sideR (loop_rule (w_impl_isNameL1 sZ0) hoZ11 ?_)) (fun vZ12 hv => ?_) (fun xZ13 hv e τ hne hq => ?_)
  · exact ZK (ZA S_impl_isNameL1.eq_1 SX_impl_isNameL1.eq_1)
  · subst hv
    simp only [] at h
    simp only [ZC, SX_impl_isNameL1, A128R3]
    obtain ⟨rZ14, hrZ14, h⟩ := bind_s h
    refine ZF trivial ?_
    refine ZS trivial (w_impl_within _ _ _ hrZ14) ?_
    refine ZG ?_
    cases h
    exact ZL trivial V128.eq_1
  · subst hv
    simp only [] at h
    obtain ⟨rfl, qZ15⟩ := hq
    cases h
    exact qZ15
def S_slices_Index_Lstring_stringL1 (sZ0 : List ByteArray) (vZ0 : ByteArray) (v : Int) : St := ⟨[(0, .lst .o 1 (sZ0.map AV.z)), (1, .z vZ0), (7, .i (sZ0.length : Int)), (8, .i v)], []⟩
def SX_slices_Index_Lstring_stringL1 (v : Unit) : St := ⟨[], []⟩
theorem w_slices_Index_Lstring_stringL1 (sZ0 : List ByteArray) (vZ0 : ByteArray) (sZ1 : Int) (o : Int ⊕ (Unit ⊕ Int)) (h : M_slices_Index_Lstring_stringL1 sZ0 vZ0 sZ1 = some o) : AWP (OkS Tryz.prog) A141L1 (qL [0, 1, 7, 8] [] (S_slices_Index_Lstring_stringL1 sZ0 vZ0) (qS (qX 0 [] [] (SX_slices_Index_Lstring_stringL1)) (qR V141 (fun r => .i r))) o) (S_slices_Index_Lstring_stringL1 sZ0 vZ0 sZ1) := by
  unfold M_slices_Index_Lstring_stringL1 at h
  simp only [ZC, S_slices_Index_Lstring_stringL1, A141L1]
  obtain ⟨cZ2, h⟩ | ⟨cZ2, h⟩ := cond_s h
  · obtain ⟨yZ3, hyZ3, h⟩ := bind_s h
    obtain ⟨hyZ3a, hyZ3b⟩ := geti_s hyZ3
    obtain ⟨cZ4, h⟩ | ⟨cZ4, h⟩ := cond_s h
    · cases h
      exact ZL (ZA cZ2 (ZA hyZ3a (ZA hyZ3b cZ4))) V141.eq_1
    · cases h
      exact ZL (ZA cZ2 (ZA hyZ3a (ZA hyZ3b cZ4))) (ZA S_slices_Index_Lstring_stringL1.eq_1 SX_slices_Index_Lstring_stringL1.eq_1)
  · cases h
    exact ZL cZ2 (ZA S_slices_Index_Lstring_stringL1.eq_1 SX_slices_Index_Lstring_stringL1.eq_1)
theorem w_slices_Index_Lstring_string (sZ0 : List ByteArray) (vZ0 : ByteArray) {r : Int} (h : M_slices_Index_Lstring_string sZ0 vZ0 = some r) : Ok Tryz.prog 141 [.lst .o 1 (sZ0.map AV.z), .z vZ0] ((fun r => .i r) r) := by
  refine ok_of_body hmix m141 rfl ?_
  unfold M_slices_Index_Lstring_string at h
  simp only [ZC, A141, V141, body_eq]
  obtain ⟨oZ5, hoZ5, h⟩ := bind_s h
  try refine ZF trivial ?_
  refine join_rule (o := oZ5) (blk_rule sideR (loop_rule (w_slices_Index_Lstring_stringL1 sZ0 vZ0) hoZ5 ?_)) (fun vZ6 hv => ?_) (fun xZ7 hv e τ hne hq => ?_)
  · exact ZK (ZA S_slices_Index_Lstring_stringL1.eq_1 SX_slices_Index_Lstring_stringL1.eq_1)
  · subst hv
    simp only [] at h
    simp only [ZC, SX_slices_Index_Lstring_stringL1, A141R2]
    cases h
    exact ZL trivial V141.eq_1
  · subst hv
    simp only [] at h
    obtain ⟨rfl, qZ8⟩ := hq
    cases h
    exact qZ8
theorem w_slices_Contains_Lstring_string (sZ0 : List ByteArray) (vZ0 : ByteArray) {r : Bool} (h : M_slices_Contains_Lstring_string sZ0 vZ0 = some r) : Ok Tryz.prog 129 [.lst .o 1 (sZ0.map AV.z), .z vZ0] ((fun r => .b r) r) := by
  refine ok_of_body hmix m129 rfl ?_
  unfold M_slices_Contains_Lstring_string at h
  simp only [ZC, A129, V129, body_eq]
  obtain ⟨rZ1, hrZ1, h⟩ := bind_s h
  refine ZF trivial ?_
  refine ZS trivial (w_slices_Index_Lstring_string _ _ hrZ1) ?_
  refine ZG ?_
  cases h
  exact ZL trivial V129.eq_1
theorem w_cmp_isNaN_int (xZ0 : Int) {r : Bool} (h : M_cmp_isNaN_int xZ0 = some r) : Ok Tryz.prog 149 [.i xZ0] ((fun r => .b r) r) := by
  refine ok_of_body hmix m149 rfl ?_
  unfold M_cmp_isNaN_int at h
  simp only [ZC, A149, V149, body_eq]
  cases h
  exact ZL trivial V149.eq_1
theorem w_cmp_Compare_int (xZ0 : Int) (yZ0 : Int) {r : Int} (h : M_cmp_Compare_int xZ0 yZ0 = some r) : Ok Tryz.prog 143 [.i xZ0, .i yZ0] ((fun r => .i r) r) := by
  refine ok_of_body hmix m143 rfl ?_
  unfold M_cmp_Compare_int at h
  simp only [ZC, A143, V143, body_eq]
  obtain ⟨rZ1, hrZ1, h⟩ := bind_s h
  refine ZF trivial ?_
  refine ZS trivial (w_cmp_isNaN_int _ hrZ1) ?_
  refine ZG ?_
  obtain ⟨rZ2, hrZ2, h⟩ := bind_s h
  refine ZF trivial ?_
  refine ZS trivial (w_cmp_isNaN_int _ hrZ2) ?_
  refine ZG ?_
  obtain ⟨cZ3, h⟩ | ⟨cZ3, h⟩ := cond_s h
  · obtain ⟨cZ4, h⟩ | ⟨cZ4, h⟩ := cond_s h
    · cases h
      exact ZL (ZA cZ3 cZ4) V143.eq_1
    · cases h
      exact ZL (ZA cZ3 cZ4) V143.eq_1
  · obtain ⟨cZ5, h⟩ | ⟨cZ5, h⟩ := cond_s h
    · cases h
      exact ZL (ZA cZ3 cZ5) V143.eq_1
    · obtain ⟨cZ6, h⟩ | ⟨cZ6, h⟩ := cond_s h
      · cases h
        exact ZL (ZA cZ3 (ZA cZ5 cZ6)) V143.eq_1
      · obtain ⟨cZ7, h⟩ | ⟨cZ7, h⟩ := cond_s h
        · cases h
          exact ZL (ZA cZ3 (ZA cZ5 (ZA cZ6 cZ7))) V143.eq_1
        · cases h
          exact ZL (ZA cZ3 (ZA cZ5 (ZA cZ6 cZ7))) V143.eq_1
def S_cmp_Or_intL1 (valsZ0 : List Int) (v : Int) : St := ⟨[(3, .i 0), (6, .lst .o 1 (valsZ0.map AV.i)), (7, .i (valsZ0.length : Int)), (8, .i v)], []⟩
def SX_cmp_Or_intL1 (v : Unit) : St := ⟨[(3, .i 0)], []⟩
theorem w_cmp_Or_intL1 (valsZ0 : List Int) (sZ1 : Int) (o : Int ⊕ (Unit ⊕ Int)) (h : M_cmp_Or_intL1 valsZ0 sZ1 = some o) : AWP (OkS Tryz.prog) A142L1 (qL [3, 6, 7, 8] [] (S_cmp_Or_intL1 valsZ0) (qS (qX 0 [3] [] (SX_cmp_Or_intL1)) (qR V142 (fun r => .i r))) o) (S_cmp_Or_intL1 valsZ0 sZ1) := by
  unfold M_cmp_Or_intL1 at h
  simp only [ZC, S_cmp_Or_intL1, A142L1]
  obtain ⟨cZ2, h⟩ | ⟨cZ2, h⟩ := cond_s h
  · obtain ⟨yZ3, hyZ3, h⟩ := bind_s h
    obtain ⟨hyZ3a, hyZ3b⟩ := geti_s hyZ3
    obtain ⟨cZ4, h⟩ | ⟨cZ4, h⟩ := cond_s h
    · cases h
      exact ZL (ZA cZ2 (ZA hyZ3a (ZA hyZ3b cZ4))) V142.eq_1
    · cases h
      exact ZL (ZA cZ2 (ZA hyZ3a (ZA hyZ3b cZ4))) (ZA S_cmp_Or_intL1.eq_1 SX_cmp_Or_intL1.eq_1)
  · cases h
    exact ZL cZ2 (ZA S_cmp_Or_intL1.eq_1 SX_cmp_Or_intL1.eq_1)
theorem w_cmp_Or_int (valsZ0 : List Int) {r : Int} (h : M_cmp_Or_int valsZ0 = some r) : Ok Tryz.prog 142 [.lst .o 1 (valsZ0.map AV.i)] ((fun r => .i r) r) := by
  refine ok_of_body hmix m142 rfl ?_
  unfold M_cmp_Or_int at h
  simp only [ZC, A142, V142, body_eq]
  obtain ⟨oZ5, hoZ5, h⟩ := bind_s h
  try refine ZF trivial ?_
  refine join_rule (o := oZ5) (blk_rule sideR (loop_rule (w_cmp_Or_intL1 valsZ0) hoZ5 ?_)) (fun vZ6 hv => ?_) (fun xZ7 hv e τ hne hq => ?_)
  · exact ZK (ZA S_cmp_Or_intL1.eq_1 SX_cmp_Or_intL1.eq_1)
  · subst hv
    simp only [] at h
    simp only [ZC, SX_cmp_Or_intL1, A142R2]
    cases h
    exact ZL trivial V142.eq_1
  · subst hv
    simp only [] at h
    obtain ⟨rfl, qZ8⟩ := hq
    cases h
    exact qZ8
theorem w_impl_compareFibers (aZ0 : TFiber) (bZ0 : TFiber) {r : Int} (h : M_impl_compareFibers aZ0 bZ0 = some r) : Ok Tryz.prog 130 [.agg [.i aZ0.A, .i aZ0.B, .i aZ0.Length, .i aZ0.Risk], .agg [.i bZ0.A, .i bZ0.B, .i bZ0.Length, .i bZ0.Risk]] ((fun r => .i r) r) := by
  refine ok_of_body hmix m130 rfl ?_
  unfold M_impl_compareFibers at h
  simp only [ZC, A130, V130, body_eq]
  obtain ⟨rZ1, hrZ1, h⟩ := bind_s h
  refine ZF trivial ?_
  refine ZS trivial (w_cmp_Compare_int _ _ hrZ1) ?_
  refine ZG ?_
  obtain ⟨rZ2, hrZ2, h⟩ := bind_s h
  refine ZF trivial ?_
  refine ZS trivial (w_cmp_Compare_int _ _ hrZ2) ?_
  refine ZG ?_
  obtain ⟨rZ3, hrZ3, h⟩ := bind_s h
  refine ZF trivial ?_
  refine ZS trivial (w_cmp_Compare_int _ _ hrZ3) ?_
  refine ZG ?_
  obtain ⟨rZ4, hrZ4, h⟩ := bind_s h
  refine ZF trivial ?_
  refine ZS trivial (w_cmp_Compare_int _ _ hrZ4) ?_
  refine ZG ?_
  obtain ⟨lZ5, hlZ5, h⟩ := bnd_s h
  have eZ6 : Row.arr 1 [(.i rZ1 : AV), (.i rZ2 : AV), (.i rZ3 : AV), (.i rZ4 : AV)] = Row.arr 1 (lZ5.map AV.i) := by rw [← hlZ5]; rfl
  have jjZ7 : lZ5.length = 4 := by rw [← hlZ5]; rfl
  have nZ8 : sub (lZ5.map AV.i) 0 4 = lZ5.map AV.i := sub_n _ (by simp [← hlZ5])
  obtain ⟨rZ9, hrZ9, h⟩ := bind_s h
  refine ZF (ZA eZ6 (ZA jjZ7 nZ8)) ?_
  refine ZS (ZA eZ6 (ZA jjZ7 nZ8)) (w_cmp_Or_int _ hrZ9) ?_
  refine ZG ?_
  cases h
  exact ZL (ZA eZ6 (ZA jjZ7 nZ8)) (ZA V130.eq_1 (ZA hlZ5.symm jjZ7))
def S_impl_IsValidNetworkL1 (nZ0 : TNetwork) (v : Int) : St := ⟨[(1, .pt 1 0 0), (8, .lst .o 1 (nZ0.Nodes.map AV.z)), (9, .i (nZ0.Nodes.length : Int)), (10, .i v)], [(1, .var (.agg [.lst .o 1 (nZ0.Nodes.map AV.z), .lst .o 4 (nZ0.Fibers.map (e_TFiber .o))]))]⟩
def SX_impl_IsValidNetworkL1 (nZ0 : TNetwork) (v : Unit) : St := ⟨[(1, .pt 1 0 0)], [(1, .var (.agg [.lst .o 1 (nZ0.Nodes.map AV.z), .lst .o 4 (nZ0.Fibers.map (e_TFiber .o))]))]⟩
theorem w_impl_IsValidNetworkL1 (nZ0 : TNetwork) (sZ1 : Int) (o : Int ⊕ (Unit ⊕ Bool)) (h : M_impl_IsValidNetworkL1 nZ0 sZ1 = some o) : AWP (OkS Tryz.prog) A94L1 (qL [1, 8, 9, 10] [1] (S_impl_IsValidNetworkL1 nZ0) (qS (qX 0 [1] [1] (SX_impl_IsValidNetworkL1 nZ0)) (qR V94 (fun r => .b r))) o) (S_impl_IsValidNetworkL1 nZ0 sZ1) := by
  unfold M_impl_IsValidNetworkL1 at h
  simp only [ZC, S_impl_IsValidNetworkL1, A94L1]
  obtain ⟨cZ2, h⟩ | ⟨cZ2, h⟩ := cond_s h
  · obtain ⟨yZ3, hyZ3, h⟩ := bind_s h
    obtain ⟨hyZ3a, hyZ3b⟩ := geti_s hyZ3
    obtain ⟨rZ4, hrZ4, h⟩ := bind_s h
    refine ZF (ZA cZ2 (ZA hyZ3a hyZ3b)) ?_
    refine ZS (ZA cZ2 (ZA hyZ3a hyZ3b)) (w_impl_isName _ hrZ4) ?_
    refine ZG ?_
    obtain ⟨cZ5, h⟩ | ⟨cZ5, h⟩ := cond_s h
    · cases h
      exact ZL (ZA cZ2 (ZA hyZ3a (ZA hyZ3b cZ5))) V94.eq_1
    · obtain ⟨lZ6, hlZ6, h⟩ := bind_s h
      obtain ⟨hlZ6a, hlZ6b, hlZ6c, hlZ6d, hlZ6e⟩ := slT_s AV.z hlZ6
      obtain ⟨rZ7, hrZ7, h⟩ := bind_s h
      refine ZF (ZA cZ2 (ZA hyZ3a (ZA hyZ3b (ZA cZ5 (ZA hlZ6a (ZA hlZ6b (ZA hlZ6c (ZA hlZ6d hlZ6e)))))))) ?_
      refine ZS (ZA cZ2 (ZA hyZ3a (ZA hyZ3b (ZA cZ5 (ZA hlZ6a (ZA hlZ6b (ZA hlZ6c (ZA hlZ6d hlZ6e)))))))) (w_slices_Contains_Lstring_string _ _ hrZ7) ?_
      refine ZG ?_
      obtain ⟨cZ8, h⟩ | ⟨cZ8, h⟩ := cond_s h
      · cases h
        exact ZL (ZA cZ2 (ZA hyZ3a (ZA hyZ3b (ZA cZ5 (ZA hlZ6a (ZA hlZ6b (ZA hlZ6c (ZA hlZ6d (ZA hlZ6e cZ8))))))))) V94.eq_1
      · cases h
        exact ZL (ZA cZ2 (ZA hyZ3a (ZA hyZ3b (ZA cZ5 (ZA hlZ6a (ZA hlZ6b (ZA hlZ6c (ZA hlZ6d (ZA hlZ6e cZ8))))))))) (ZA S_impl_IsValidNetworkL1.eq_1 SX_impl_IsValidNetworkL1.eq_1)
  · cases h
    exact ZL cZ2 (ZA S_impl_IsValidNetworkL1.eq_1 SX_impl_IsValidNetworkL1.eq_1)
def S_impl_IsValidNetworkL2 (nZ0 : TNetwork) (v : Int) : St := ⟨[(1, .pt 1 0 0), (28, .lst .o 4 (nZ0.Fibers.map (e_TFiber .o))), (29, .i (nZ0.Fibers.length : Int)), (30, .i v)], [(1, .var (.agg [.lst .o 1 (nZ0.Nodes.map AV.z), .lst .o 4 (nZ0.Fibers.map (e_TFiber .o))]))]⟩
def SX_impl_IsValidNetworkL2 (nZ0 : TNetwork) (v : Unit) : St := ⟨[(1, .pt 1 0 0)], [(1, .var (.agg [.lst .o 1 (nZ0.Nodes.map AV.z), .lst .o 4 (nZ0.Fibers.map (e_TFiber .o))]))]⟩
theorem w_impl_IsValidNetworkL2 (nZ0 : TNetwork) (sZ12 : Int) (o : Int ⊕ (Unit ⊕ Bool)) (h : M_impl_IsValidNetworkL2 nZ0 sZ12 = some o) : AWP (OkS Tryz.prog) A94L3 (qL [1, 28, 29, 30] [1] (S_impl_IsValidNetworkL2 nZ0) (qS (qX 2 [1] [1] (SX_impl_IsValidNetworkL2 nZ0)) (qR V94 (fun r => .b r))) o) (S_impl_IsValidNetworkL2 nZ0 sZ12) := by
  unfold M_impl_IsValidNetworkL2 at h
  simp only [ZC, S_impl_IsValidNetworkL2, A94L3]
  obtain ⟨cZ13, h⟩ | ⟨cZ13, h⟩ := cond_s h
  · obtain ⟨yZ14, hyZ14, h⟩ := bind_s h
    obtain ⟨hyZ14a, hyZ14b⟩ := geti_s hyZ14
    obtain ⟨cZ15, h⟩ | ⟨cZ15, h⟩ := cond_s h
    · cases h
      exact ZL (ZA cZ13 (ZA hyZ14a (ZA hyZ14b cZ15))) V94.eq_1
    · obtain ⟨cZ16, h⟩ | ⟨cZ16, h⟩ := cond_s h
      · cases h
        exact ZL (ZA cZ13 (ZA hyZ14a (ZA hyZ14b (ZA cZ15 cZ16)))) V94.eq_1
      · obtain ⟨cZ17, h⟩ | ⟨cZ17, h⟩ := cond_s h
        · cases h
          exact ZL (ZA cZ13 (ZA hyZ14a (ZA hyZ14b (ZA cZ15 (ZA cZ16 cZ17))))) V94.eq_1
        · obtain ⟨rZ18, hrZ18, h⟩ := bind_s h
          refine ZF (ZA cZ13 (ZA hyZ14a (ZA hyZ14b (ZA cZ15 (ZA cZ16 cZ17))))) ?_
          refine ZS (ZA cZ13 (ZA hyZ14a (ZA hyZ14b (ZA cZ15 (ZA cZ16 cZ17))))) (w_impl_within _ _ _ hrZ18) ?_
          refine ZG ?_
          obtain ⟨cZ19, h⟩ | ⟨cZ19, h⟩ := cond_s h
          · cases h
            exact ZL (ZA cZ13 (ZA hyZ14a (ZA hyZ14b (ZA cZ15 (ZA cZ16 (ZA cZ17 cZ19)))))) V94.eq_1
          · obtain ⟨rZ20, hrZ20, h⟩ := bind_s h
            refine ZF (ZA cZ13 (ZA hyZ14a (ZA hyZ14b (ZA cZ15 (ZA cZ16 (ZA cZ17 cZ19)))))) ?_
            refine ZS (ZA cZ13 (ZA hyZ14a (ZA hyZ14b (ZA cZ15 (ZA cZ16 (ZA cZ17 cZ19)))))) (w_impl_within _ _ _ hrZ20) ?_
            refine ZG ?_
            obtain ⟨cZ21, h⟩ | ⟨cZ21, h⟩ := cond_s h
            · cases h
              exact ZL (ZA cZ13 (ZA hyZ14a (ZA hyZ14b (ZA cZ15 (ZA cZ16 (ZA cZ17 (ZA cZ19 cZ21))))))) V94.eq_1
            · obtain ⟨cZ22, h⟩ | ⟨cZ22, h⟩ := cond_s h
              · obtain ⟨yZ23, hyZ23, h⟩ := bind_s h
                obtain ⟨hyZ23a, hyZ23b⟩ := geti_s hyZ23
                obtain ⟨rZ24, hrZ24, h⟩ := bind_s h
                refine ZF (ZA cZ13 (ZA hyZ14a (ZA hyZ14b (ZA cZ15 (ZA cZ16 (ZA cZ17 (ZA cZ19 (ZA cZ21 (ZA cZ22 (ZA hyZ23a hyZ23b)))))))))) ?_
                refine ZS (ZA cZ13 (ZA hyZ14a (ZA hyZ14b (ZA cZ15 (ZA cZ16 (ZA cZ17 (ZA cZ19 (ZA cZ21 (ZA cZ22 (ZA hyZ23a hyZ23b)))))))))) (w_impl_compareFibers _ _ hrZ24) ?_
                refine ZG ?_
                obtain ⟨cZ25, h⟩ | ⟨cZ25, h⟩ := cond_s h
                · cases h
                  exact ZL (ZA cZ13 (ZA hyZ14a (ZA hyZ14b (ZA cZ15 (ZA cZ16 (ZA cZ17 (ZA cZ19 (ZA cZ21 (ZA cZ22 (ZA hyZ23a (ZA hyZ23b cZ25))))))))))) V94.eq_1
                · cases h
                  exact ZL (ZA cZ13 (ZA hyZ14a (ZA hyZ14b (ZA cZ15 (ZA cZ16 (ZA cZ17 (ZA cZ19 (ZA cZ21 (ZA cZ22 (ZA hyZ23a (ZA hyZ23b cZ25))))))))))) (ZA S_impl_IsValidNetworkL2.eq_1 SX_impl_IsValidNetworkL2.eq_1)
              · cases h
                exact ZL (ZA cZ13 (ZA hyZ14a (ZA hyZ14b (ZA cZ15 (ZA cZ16 (ZA cZ17 (ZA cZ19 (ZA cZ21 cZ22)))))))) (ZA S_impl_IsValidNetworkL2.eq_1 SX_impl_IsValidNetworkL2.eq_1)
  · cases h
    exact ZL cZ13 (ZA S_impl_IsValidNetworkL2.eq_1 SX_impl_IsValidNetworkL2.eq_1)
theorem w_impl_IsValidNetwork (nZ0 : TNetwork) {r : Bool} (h : M_impl_IsValidNetwork nZ0 = some r) : Ok Tryz.prog 94 [.agg [.lst .o 1 (nZ0.Nodes.map AV.z), .lst .o 4 (nZ0.Fibers.map (e_TFiber .o))]] ((fun r => .b r) r) := by
  refine ok_of_body hmix m94 rfl ?_
  unfold M_impl_IsValidNetwork at h
  simp only [ZC, A94, V94, body_eq]
  obtain ⟨oZ9, hoZ9, h⟩ := bind_s h
  try refine ZF trivial ?_
  refine join_rule (o := oZ9) (blk_rule sideR (loop_rule (w_impl_IsValidNetworkL1 nZ0) hoZ9 ?_)) (fun vZ10 hv => ?_) (fun xZ11 hv e τ hne hq => ?_)
  · exact ZK (ZA S_impl_IsValidNetworkL1.eq_1 SX_impl_IsValidNetworkL1.eq_1)
  · subst hv
    simp only [] at h
    simp only [ZC, SX_impl_IsValidNetworkL1, A94R2]
    obtain ⟨oZ26, hoZ26, h⟩ := bind_s h
    try refine ZF trivial ?_
    refine join_rule (o := oZ26) (blk_rule sideR (loop_rule (w_impl_IsValidNetworkL2 nZ0) hoZ26 ?_)) (fun vZ27 hv => ?_) (fun xZ28 hv e τ hne hq => ?_)
    · exact ZK (ZA S_impl_IsValidNetworkL2.eq_1 SX_impl_IsValidNetworkL2.eq_1)
    · subst hv
      simp only [] at h
      simp only [ZC, SX_impl_IsValidNetworkL2, A94R4]
      obtain ⟨rZ29, hrZ29, h⟩ := bind_s h
      refine ZF trivial ?_
      refine ZS trivial (w_impl_within _ _ _ hrZ29) ?_
      refine ZG ?_
      obtain ⟨cZ30, h⟩ | ⟨cZ30, h⟩ := cond_s h
      · cases h
        exact ZL cZ30 V94.eq_1
      · cases h
        exact ZL cZ30 V94.eq_1
    · subst hv
      simp only [] at h
      obtain ⟨rfl, qZ31⟩ := hq
      cases h
      exact qZ31
  · subst hv
    simp only [] at h
    obtain ⟨rfl, qZ32⟩ := hq
    cases h
    exact qZ32
theorem w_impl_otherEnd (fZ0 : TFiber) (nodeZ0 : Int) {r : Int} (h : M_impl_otherEnd fZ0 nodeZ0 = some r) : Ok Tryz.prog 144 [.agg [.i fZ0.A, .i fZ0.B, .i fZ0.Length, .i fZ0.Risk], .i nodeZ0] ((fun r => .i r) r) := by
  refine ok_of_body hmix m144 rfl ?_
  unfold M_impl_otherEnd at h
  simp only [ZC, A144, V144, body_eq]
  obtain ⟨cZ1, h⟩ | ⟨cZ1, h⟩ := cond_s h
  · cases h
    exact ZL cZ1 V144.eq_1
  · obtain ⟨cZ2, h⟩ | ⟨cZ2, h⟩ := cond_s h
    · cases h
      exact ZL (ZA cZ1 cZ2) V144.eq_1
    · cases h
      exact ZL (ZA cZ1 cZ2) V144.eq_1
def S_slices_Index_Lint_intL1 (sZ0 : List Int) (vZ0 : Int) (v : Int) : St := ⟨[(0, .lst .o 1 (sZ0.map AV.i)), (1, .i vZ0), (7, .i (sZ0.length : Int)), (8, .i v)], []⟩
def SX_slices_Index_Lint_intL1 (v : Unit) : St := ⟨[], []⟩
theorem w_slices_Index_Lint_intL1 (sZ0 : List Int) (vZ0 : Int) (sZ1 : Int) (o : Int ⊕ (Unit ⊕ Int)) (h : M_slices_Index_Lint_intL1 sZ0 vZ0 sZ1 = some o) : AWP (OkS Tryz.prog) A112L1 (qL [0, 1, 7, 8] [] (S_slices_Index_Lint_intL1 sZ0 vZ0) (qS (qX 0 [] [] (SX_slices_Index_Lint_intL1)) (qR V112 (fun r => .i r))) o) (S_slices_Index_Lint_intL1 sZ0 vZ0 sZ1) := by
  unfold M_slices_Index_Lint_intL1 at h
  simp only [ZC, S_slices_Index_Lint_intL1, A112L1]
  obtain ⟨cZ2, h⟩ | ⟨cZ2, h⟩ := cond_s h
  · obtain ⟨yZ3, hyZ3, h⟩ := bind_s h
    obtain ⟨hyZ3a, hyZ3b⟩ := geti_s hyZ3
    obtain ⟨cZ4, h⟩ | ⟨cZ4, h⟩ := cond_s h
    · cases h
      exact ZL (ZA cZ2 (ZA hyZ3a (ZA hyZ3b cZ4))) V112.eq_1
    · cases h
      exact ZL (ZA cZ2 (ZA hyZ3a (ZA hyZ3b cZ4))) (ZA S_slices_Index_Lint_intL1.eq_1 SX_slices_Index_Lint_intL1.eq_1)
  · cases h
    exact ZL cZ2 (ZA S_slices_Index_Lint_intL1.eq_1 SX_slices_Index_Lint_intL1.eq_1)
theorem w_slices_Index_Lint_int (sZ0 : List Int) (vZ0 : Int) {r : Int} (h : M_slices_Index_Lint_int sZ0 vZ0 = some r) : Ok Tryz.prog 112 [.lst .o 1 (sZ0.map AV.i), .i vZ0] ((fun r => .i r) r) := by
  refine ok_of_body hmix m112 rfl ?_
  unfold M_slices_Index_Lint_int at h
  simp only [ZC, A112, V112, body_eq]
  obtain ⟨oZ5, hoZ5, h⟩ := bind_s h
  try refine ZF trivial ?_
  refine join_rule (o := oZ5) (blk_rule sideR (loop_rule (w_slices_Index_Lint_intL1 sZ0 vZ0) hoZ5 ?_)) (fun vZ6 hv => ?_) (fun xZ7 hv e τ hne hq => ?_)
  · exact ZK (ZA S_slices_Index_Lint_intL1.eq_1 SX_slices_Index_Lint_intL1.eq_1)
  · subst hv
    simp only [] at h
    simp only [ZC, SX_slices_Index_Lint_intL1, A112R2]
    cases h
    exact ZL trivial V112.eq_1
  · subst hv
    simp only [] at h
    obtain ⟨rfl, qZ8⟩ := hq
    cases h
    exact qZ8
theorem w_slices_Contains_Lint_int (sZ0 : List Int) (vZ0 : Int) {r : Bool} (h : M_slices_Contains_Lint_int sZ0 vZ0 = some r) : Ok Tryz.prog 75 [.lst .o 1 (sZ0.map AV.i), .i vZ0] ((fun r => .b r) r) := by
  refine ok_of_body hmix m75 rfl ?_
  unfold M_slices_Contains_Lint_int at h
  simp only [ZC, A75, V75, body_eq]
  obtain ⟨rZ1, hrZ1, h⟩ := bind_s h
  refine ZF trivial ?_
  refine ZS trivial (w_slices_Index_Lint_int _ _ hrZ1) ?_
  refine ZG ?_
  cases h
  exact ZL trivial V75.eq_1
def S_impl_visitedL1 (nZ0 : TNetwork) (rZ0 : TRoute) (v : Int × Int × List Int) : St := ⟨[(2, .pt 2 0 0), (6, .sl 6 0 v.2.2.length), (7, .i v.1), (30, .lst .o 1 (rZ0.Fibers.map AV.i)), (31, .i (rZ0.Fibers.length : Int)), (32, .i v.2.1)], [(2, .var (.agg [.lst .o 1 (nZ0.Nodes.map AV.z), .lst .o 4 (nZ0.Fibers.map (e_TFiber .o))])), (6, .arr 1 (v.2.2.map AV.i))]⟩
def SX_impl_visitedL1 (v : List Int) : St := ⟨[(6, .sl 6 0 v.length)], [(6, .arr 1 (v.map AV.i))]⟩
theorem w_impl_visitedL1 (nZ0 : TNetwork) (rZ0 : TRoute) (sZ8 : Int × Int × List Int) (o : (Int × Int × List Int) ⊕ ((List Int) ⊕ (List Int × Bool))) (h : M_impl_visitedL1 nZ0 rZ0 sZ8 = some o) : AWP (OkS Tryz.prog) A131L3 (qL [2, 6, 7, 30, 31, 32] [2, 6] (S_impl_visitedL1 nZ0 rZ0) (qS (qX 0 [6] [6] (SX_impl_visitedL1)) (qR V131 (fun r => .tup [.lst .u 1 (r.1.map AV.i), .b r.2]))) o) (S_impl_visitedL1 nZ0 rZ0 sZ8) := by
  unfold M_impl_visitedL1 at h
  simp only [ZC, S_impl_visitedL1, A131L3]
  obtain ⟨cZ9, h⟩ | ⟨cZ9, h⟩ := cond_s h
  · obtain ⟨yZ10, hyZ10, h⟩ := bind_s h
    obtain ⟨hyZ10a, hyZ10b⟩ := geti_s hyZ10
    obtain ⟨rZ11, hrZ11, h⟩ := bind_s h
    refine ZF (ZA cZ9 (ZA hyZ10a hyZ10b)) ?_
    refine ZS (ZA cZ9 (ZA hyZ10a hyZ10b)) (w_impl_within _ _ _ hrZ11) ?_
    refine ZG ?_
    obtain ⟨cZ12, h⟩ | ⟨cZ12, h⟩ := cond_s h
    · cases h
      exact ZL (ZA cZ9 (ZA hyZ10a (ZA hyZ10b cZ12))) V131.eq_1
    · obtain ⟨yZ13, hyZ13, h⟩ := bind_s h
      obtain ⟨hyZ13a, hyZ13b⟩ := geti_s hyZ13
      obtain ⟨rZ14, hrZ14, h⟩ := bind_s h
      refine ZF (ZA cZ9 (ZA hyZ10a (ZA hyZ10b (ZA cZ12 (ZA hyZ13a hyZ13b))))) ?_
      refine ZS (ZA cZ9 (ZA hyZ10a (ZA hyZ10b (ZA cZ12 (ZA hyZ13a hyZ13b))))) (w_impl_otherEnd _ _ hrZ14) ?_
      refine ZG ?_
      obtain ⟨oZ17, hoZ17, h⟩ := bind_s h
      try refine ZF (ZA cZ9 (ZA hyZ10a (ZA hyZ10b (ZA cZ12 (ZA hyZ13a hyZ13b))))) ?_
      refine join_rule0 (sh := (fun v => ⟨[(2, .pt 2 0 0), (6, .sl 6 0 sZ8.2.2.length), (7, .i rZ14), (30, .lst .o 1 (rZ0.Fibers.map AV.i)), (31, .i (rZ0.Fibers.length : Int)), (32, .i sZ8.2.1), (56, .b v)], [(2, .var (.agg [.lst .o 1 (nZ0.Nodes.map AV.z), .lst .o 4 (nZ0.Fibers.map (e_TFiber .o))])), (6, .arr 1 (sZ8.2.2.map AV.i))]⟩)) (s := oZ17) ?_ ?_
      · replace h := hoZ17
        obtain ⟨cZ15, h⟩ | ⟨cZ15, h⟩ := cond_s h
        · cases h
          exact ZL (ZA cZ9 (ZA hyZ10a (ZA hyZ10b (ZA cZ12 (ZA hyZ13a (ZA hyZ13b cZ15)))))) trivial
        · obtain ⟨rZ16, hrZ16, h⟩ := bind_s h
          refine ZF (ZA cZ9 (ZA hyZ10a (ZA hyZ10b (ZA cZ12 (ZA hyZ13a (ZA hyZ13b cZ15)))))) ?_
          refine ZS (ZA cZ9 (ZA hyZ10a (ZA hyZ10b (ZA cZ12 (ZA hyZ13a (ZA hyZ13b cZ15)))))) (w_slices_Contains_Lint_int _ _ hrZ16) ?_
          refine ZG ?_
          cases h
          exact ZL (ZA cZ9 (ZA hyZ10a (ZA hyZ10b (ZA cZ12 (ZA hyZ13a (ZA hyZ13b cZ15)))))) trivial
      · simp only [ZC, A131R2]
        obtain ⟨cZ18, h⟩ | ⟨cZ18, h⟩ := cond_s h
        · cases h
          exact ZL (ZA cZ9 (ZA hyZ10a (ZA hyZ10b (ZA cZ12 (ZA hyZ13a (ZA hyZ13b cZ18)))))) V131.eq_1
        · obtain ⟨lZ19, hlZ19, h⟩ := bnd_s h
          have eZ20 : Row.arr 1 [(.i rZ14 : AV)] = Row.arr 1 (lZ19.map AV.i) := by rw [← hlZ19]; rfl
          have jjZ21 : lZ19.length = 1 := by rw [← hlZ19]; rfl
          obtain ⟨uZ22, huZ22, h⟩ := bind_s h
          have huZ22g := grd_s huZ22
          obtain ⟨lZ23, hlZ23, h⟩ := bnd_s h
          have eZ24 : sZ8.2.2.map AV.i ++ lZ19.map AV.i = lZ23.map AV.i := by rw [← hlZ23, List.map_append]
          have eZ25 : sZ8.2.2.length + 1 = lZ23.length := by simp [← hlZ19, ← hlZ23] <;> omega
          rw [eZ25] at huZ22g
          cases h
          exact ZL (ZA cZ9 (ZA hyZ10a (ZA hyZ10b (ZA cZ12 (ZA hyZ13a (ZA hyZ13b (ZA cZ18 (ZA eZ20 (ZA jjZ21 (ZA huZ22g (ZA eZ24 eZ25))))))))))) (ZA S_impl_visitedL1.eq_1 (ZA SX_impl_visitedL1.eq_1 (ZA hlZ19.symm (ZA hlZ23.symm jjZ21))))
  · cases h
    exact ZL cZ9 (ZA S_impl_visitedL1.eq_1 SX_impl_visitedL1.eq_1)
theorem w_impl_visited (nZ0 : TNetwork) (rZ0 : TRoute) {r : List Int × Bool} (h : M_impl_visited nZ0 rZ0 = some r) : Ok Tryz.prog 131 [.agg [.lst .o 1 (nZ0.Nodes.map AV.z), .lst .o 4 (nZ0.Fibers.map (e_TFiber .o))], .agg [.i rZ0.Start, .lst .o 1 (rZ0.Fibers.map AV.i)]] ((fun r => .tup [.lst .u 1 (r.1.map AV.i), .b r.2]) r) := by
  refine ok_of_body hmix m131 rfl ?_
  unfold M_impl_visited at h
  simp only [ZC, A131, V131, body_eq]
  obtain ⟨oZ3, hoZ3, h⟩ := bind_s h
  try refine ZF trivial ?_
  refine join_rule0 (sh := (fun v => ⟨[(2, .pt 2 0 0), (3, .pt 3 0 0), (23, .b v)], [(2, .var (.agg [.lst .o 1 (nZ0.Nodes.map AV.z), .lst .o 4 (nZ0.Fibers.map (e_TFiber .o))])), (3, .var (.agg [.i rZ0.Start, .lst .o 1 (rZ0.Fibers.map AV.i)]))]⟩)) (s := oZ3) ?_ ?_
  · replace h := hoZ3
    obtain ⟨rZ1, hrZ1, h⟩ := bind_s h
    refine ZF trivial ?_
    refine ZS trivial (w_impl_within _ _ _ hrZ1) ?_
    refine ZG ?_
    obtain ⟨cZ2, h⟩ | ⟨cZ2, h⟩ := cond_s h
    · cases h
      exact ZL cZ2 trivial
    · cases h
      exact ZL cZ2 trivial
  · simp only [ZC, A131R1]
    obtain ⟨cZ4, h⟩ | ⟨cZ4, h⟩ := cond_s h
    · cases h
      exact ZL cZ4 V131.eq_1
    · obtain ⟨lZ5, hlZ5, h⟩ := bnd_s h
      have eZ6 : Row.arr 1 [(.i rZ0.Start : AV)] = Row.arr 1 (lZ5.map AV.i) := by rw [← hlZ5]; rfl
      have jjZ7 : lZ5.length = 1 := by rw [← hlZ5]; rfl
      obtain ⟨oZ26, hoZ26, h⟩ := bind_s h
      try refine ZF (ZA cZ4 (ZA eZ6 jjZ7)) ?_
      refine join_rule (o := oZ26) (blk_rule sideR (loop_rule (w_impl_visitedL1 nZ0 rZ0) hoZ26 ?_)) (fun vZ27 hv => ?_) (fun xZ28 hv e τ hne hq => ?_)
      · exact ZK (ZA S_impl_visitedL1.eq_1 (ZA SX_impl_visitedL1.eq_1 (ZA hlZ5.symm jjZ7)))
      · subst hv
        simp only [] at h
        simp only [ZC, SX_impl_visitedL1, A131R4]
        cases h
        exact ZL (ZA cZ4 (ZA eZ6 jjZ7)) (ZA V131.eq_1 jjZ7)
      · subst hv
        simp only [] at h
        obtain ⟨rfl, qZ29⟩ := hq
        cases h
        exact qZ29
theorem w_impl_IsValidBlock (bZ0 : TBlock) {r : Bool} (h : M_impl_IsValidBlock bZ0 = some r) : Ok Tryz.prog 132 [.agg [.i bZ0.First, .i bZ0.Count]] ((fun r => .b r) r) := by
  refine ok_of_body hmix m132 rfl ?_
  unfold M_impl_IsValidBlock at h
  simp only [ZC, A132, V132, body_eq]
  obtain ⟨cZ1, h⟩ | ⟨cZ1, h⟩ := cond_s h
  · obtain ⟨rZ2, hrZ2, h⟩ := bind_s h
    refine ZF cZ1 ?_
    refine ZS cZ1 (w_impl_within _ _ _ hrZ2) ?_
    refine ZG ?_
    obtain ⟨cZ3, h⟩ | ⟨cZ3, h⟩ := cond_s h
    · cases h
      exact ZL (ZA cZ1 cZ3) V132.eq_1
    · cases h
      exact ZL (ZA cZ1 cZ3) V132.eq_1
  · cases h
    exact ZL cZ1 V132.eq_1
def S_impl_groupsL2 (nZ0 : TNetwork) (sZ1 : Int × List (List Int)) (v : Int × List Int) : St := ⟨[(1, .pt 1 0 0), (3, .sl 3 0 sZ1.2.length), (4, .i sZ1.1), (5, .sl 5 0 v.2.length), (17, .lst .o 4 (nZ0.Fibers.map (e_TFiber .o))), (18, .i (nZ0.Fibers.length : Int)), (19, .i v.1)], [(1, .var (.agg [.lst .o 1 (nZ0.Nodes.map AV.z), .lst .o 4 (nZ0.Fibers.map (e_TFiber .o))])), (3, .arr 1 (sZ1.2.map (e_Li .u))), (5, .arr 1 (v.2.map AV.i))]⟩
def SX_impl_groupsL2 (nZ0 : TNetwork) (sZ1 : Int × List (List Int)) (v : List Int) : St := ⟨[(1, .pt 1 0 0), (3, .sl 3 0 sZ1.2.length), (4, .i sZ1.1), (5, .sl 5 0 v.length)], [(1, .var (.agg [.lst .o 1 (nZ0.Nodes.map AV.z), .lst .o 4 (nZ0.Fibers.map (e_TFiber .o))])), (3, .arr 1 (sZ1.2.map (e_Li .u))), (5, .arr 1 (v.map AV.i))]⟩
theorem w_impl_groupsL2 (nZ0 : TNetwork) (sZ1 : Int × List (List Int)) (sZ3 : Int × List Int) (o : (Int × List Int) ⊕ (List Int)) (h : M_impl_groupsL2 nZ0 sZ1 sZ3 = some o) : AWP (OkS Tryz.prog) A66L1 (qL [1, 3, 4, 5, 17, 18, 19] [1, 3, 5] (S_impl_groupsL2 nZ0 sZ1) (qX 2 [1, 3, 4, 5] [1, 3, 5] (SX_impl_groupsL2 nZ0 sZ1)) o) (S_impl_groupsL2 nZ0 sZ1 sZ3) := by
  unfold M_impl_groupsL2 at h
  simp only [ZC, S_impl_groupsL2, A66L1]
  obtain ⟨cZ4, h⟩ | ⟨cZ4, h⟩ := cond_s h
  · obtain ⟨yZ5, hyZ5, h⟩ := bind_s h
    obtain ⟨hyZ5a, hyZ5b⟩ := geti_s hyZ5
    obtain ⟨cZ6, h⟩ | ⟨cZ6, h⟩ := cond_s h
    · obtain ⟨lZ7, hlZ7, h⟩ := bnd_s h
      have eZ8 : Row.arr 1 [(.i sZ3.1 : AV)] = Row.arr 1 (lZ7.map AV.i) := by rw [← hlZ7]; rfl
      have jjZ9 : lZ7.length = 1 := by rw [← hlZ7]; rfl
      obtain ⟨uZ10, huZ10, h⟩ := bind_s h
      have huZ10g := grd_s huZ10
      obtain ⟨lZ11, hlZ11, h⟩ := bnd_s h
      have eZ12 : sZ3.2.map AV.i ++ lZ7.map AV.i = lZ11.map AV.i := by rw [← hlZ11, List.map_append]
      have eZ13 : sZ3.2.length + 1 = lZ11.length := by simp [← hlZ7, ← hlZ11] <;> omega
      rw [eZ13] at huZ10g
      cases h
      exact ZL (ZA cZ4 (ZA hyZ5a (ZA hyZ5b (ZA cZ6 (ZA eZ8 (ZA jjZ9 (ZA huZ10g (ZA eZ12 eZ13)))))))) (ZA S_impl_groupsL2.eq_1 (ZA SX_impl_groupsL2.eq_1 (ZA hlZ7.symm (ZA hlZ11.symm jjZ9))))
    · cases h
      exact ZL (ZA cZ4 (ZA hyZ5a (ZA hyZ5b cZ6))) (ZA S_impl_groupsL2.eq_1 SX_impl_groupsL2.eq_1)
  · cases h
    exact ZL cZ4 (ZA S_impl_groupsL2.eq_1 SX_impl_groupsL2.eq_1)
def S_impl_groupsL1 (nZ0 : TNetwork) (v : Int × List (List Int)) : St := ⟨[(1, .pt 1 0 0), (3, .sl 3 0 v.2.length), (4, .i v.1)], [(1, .var (.agg [.lst .o 1 (nZ0.Nodes.map AV.z), .lst .o 4 (nZ0.Fibers.map (e_TFiber .o))])), (3, .arr 1 (v.2.map (e_Li .u)))]⟩
def SX_impl_groupsL1 (nZ0 : TNetwork) (v : List (List Int)) : St := ⟨[(1, .pt 1 0 0), (3, .sl 3 0 v.length)], [(1, .var (.agg [.lst .o 1 (nZ0.Nodes.map AV.z), .lst .o 4 (nZ0.Fibers.map (e_TFiber .o))])), (3, .arr 1 (v.map (e_Li .u)))]⟩
theorem w_impl_groupsL1 (nZ0 : TNetwork) (sZ1 : Int × List (List Int)) (o : (Int × List (List Int)) ⊕ (List (List Int))) (h : M_impl_groupsL1 nZ0 sZ1 = some o) : AWP (OkS Tryz.prog) A66L3 (qL [1, 3, 4] [1, 3] (S_impl_groupsL1 nZ0) (qX 0 [1, 3] [1, 3] (SX_impl_groupsL1 nZ0)) o) (S_impl_groupsL1 nZ0 sZ1) := by
  unfold M_impl_groupsL1 at h
  simp only [ZC, S_impl_groupsL1, A66L3]
  obtain ⟨cZ2, h⟩ | ⟨cZ2, h⟩ := cond_s h
  · obtain ⟨oZ14, hoZ14, h⟩ := bind_s h
    try refine ZF cZ2 ?_
    refine join_rule0 (blk_rule0 (loop_rule (w_impl_groupsL2 nZ0 sZ1) hoZ14 ?_)) ?_
    · exact ZK (ZA S_impl_groupsL2.eq_1 SX_impl_groupsL2.eq_1)
    · simp only [ZC, SX_impl_groupsL2, A66R2]
      obtain ⟨cZ15, h⟩ | ⟨cZ15, h⟩ := cond_s h
      · obtain ⟨lZ16, hlZ16, h⟩ := bnd_s h
        have eZ17 : Row.arr 1 [(.lst .u 1 (oZ14.map AV.i) : AV)] = Row.arr 1 (lZ16.map (e_Li .u)) := by rw [← hlZ16]; rfl
        have jjZ18 : lZ16.length = 1 := by rw [← hlZ16]; rfl
        obtain ⟨uZ19, huZ19, h⟩ := bind_s h
        have huZ19g := grd_s huZ19
        obtain ⟨lZ20, hlZ20, h⟩ := bnd_s h
        have eZ21 : sZ1.2.map (e_Li .u) ++ lZ16.map (e_Li .u) = lZ20.map (e_Li .u) := by rw [← hlZ20, List.map_append]
        have eZ22 : sZ1.2.length + 1 = lZ20.length := by simp [← hlZ16, ← hlZ20] <;> omega
        rw [eZ22] at huZ19g
        cases h
        exact ZL (ZA cZ2 (ZA cZ15 (ZA eZ17 (ZA jjZ18 (ZA huZ19g (ZA eZ21 eZ22)))))) (ZA S_impl_groupsL1.eq_1 (ZA SX_impl_groupsL1.eq_1 (ZA hlZ16.symm (ZA hlZ20.symm jjZ18))))
      · cases h
        exact ZL (ZA cZ2 cZ15) (ZA S_impl_groupsL1.eq_1 SX_impl_groupsL1.eq_1)
  · cases h
    exact ZL cZ2 (ZA S_impl_groupsL1.eq_1 SX_impl_groupsL1.eq_1)
def S_impl_groupsL3 (nZ0 : TNetwork) (v : Int × List (List Int)) : St := ⟨[(3, .sl 3 0 v.2.length), (41, .lst .o 4 (nZ0.Fibers.map (e_TFiber .o))), (42, .i (nZ0.Fibers.length : Int)), (43, .i v.1)], [(3, .arr 1 (v.2.map (e_Li .u)))]⟩
def SX_impl_groupsL3 (v : List (List Int)) : St := ⟨[(3, .sl 3 0 v.length)], [(3, .arr 1 (v.map (e_Li .u)))]⟩
theorem w_impl_groupsL3 (nZ0 : TNetwork) (sZ24 : Int × List (List Int)) (o : (Int × List (List Int)) ⊕ (List (List Int))) (h : M_impl_groupsL3 nZ0 sZ24 = some o) : AWP (OkS Tryz.prog) A66L5 (qL [3, 41, 42, 43] [3] (S_impl_groupsL3 nZ0) (qX 4 [3] [3] (SX_impl_groupsL3)) o) (S_impl_groupsL3 nZ0 sZ24) := by
  unfold M_impl_groupsL3 at h
  simp only [ZC, S_impl_groupsL3, A66L5]
  obtain ⟨cZ25, h⟩ | ⟨cZ25, h⟩ := cond_s h
  · obtain ⟨yZ26, hyZ26, h⟩ := bind_s h
    obtain ⟨hyZ26a, hyZ26b⟩ := geti_s hyZ26
    obtain ⟨cZ27, h⟩ | ⟨cZ27, h⟩ := cond_s h
    · obtain ⟨lZ28, hlZ28, h⟩ := bnd_s h
      have eZ29 : Row.arr 1 [(.i sZ24.1 : AV)] = Row.arr 1 (lZ28.map AV.i) := by rw [← hlZ28]; rfl
      have jjZ30 : lZ28.length = 1 := by rw [← hlZ28]; rfl
      have nZ31 : sub (lZ28.map AV.i) 0 1 = lZ28.map AV.i := sub_n _ (by simp [← hlZ28])
      obtain ⟨lZ32, hlZ32, h⟩ := bnd_s h
      have eZ33 : Row.arr 1 [(.lst .u 1 (lZ28.map AV.i) : AV)] = Row.arr 1 (lZ32.map (e_Li .u)) := by rw [← hlZ32]; rfl
      have jjZ34 : lZ32.length = 1 := by rw [← hlZ32]; rfl
      obtain ⟨uZ35, huZ35, h⟩ := bind_s h
      have huZ35g := grd_s huZ35
      obtain ⟨lZ36, hlZ36, h⟩ := bnd_s h
      have eZ37 : sZ24.2.map (e_Li .u) ++ lZ32.map (e_Li .u) = lZ36.map (e_Li .u) := by rw [← hlZ36, List.map_append]
      have eZ38 : sZ24.2.length + 1 = lZ36.length := by simp [← hlZ28, ← hlZ32, ← hlZ36] <;> omega
      rw [eZ38] at huZ35g
      cases h
      exact ZL (ZA cZ25 (ZA hyZ26a (ZA hyZ26b (ZA cZ27 (ZA eZ29 (ZA jjZ30 (ZA nZ31 (ZA eZ33 (ZA jjZ34 (ZA huZ35g (ZA eZ37 eZ38))))))))))) (ZA S_impl_groupsL3.eq_1 (ZA SX_impl_groupsL3.eq_1 (ZA hlZ28.symm (ZA hlZ32.symm (ZA hlZ36.symm (ZA jjZ30 jjZ34))))))
    · cases h
      exact ZL (ZA cZ25 (ZA hyZ26a (ZA hyZ26b cZ27))) (ZA S_impl_groupsL3.eq_1 SX_impl_groupsL3.eq_1)
  · cases h
    exact ZL cZ25 (ZA S_impl_groupsL3.eq_1 SX_impl_groupsL3.eq_1)
theorem w_impl_groups (nZ0 : TNetwork) {r : List (List Int)} (h : M_impl_groups nZ0 = some r) : Ok Tryz.prog 66 [.agg [.lst .o 1 (nZ0.Nodes.map AV.z), .lst .o 4 (nZ0.Fibers.map (e_TFiber .o))]] ((fun r => .lst .u 1 (r.map (e_Li .u))) r) := by
  refine ok_of_body hmix m66 rfl ?_
  unfold M_impl_groups at h
  simp only [ZC, A66, V66, body_eq]
  obtain ⟨oZ23, hoZ23, h⟩ := bind_s h
  try refine ZF trivial ?_
  refine join_rule0 (blk_rule0 (loop_rule (w_impl_groupsL1 nZ0) hoZ23 ?_)) ?_
  · exact ZK (ZA S_impl_groupsL1.eq_1 SX_impl_groupsL1.eq_1)
  · simp only [ZC, SX_impl_groupsL1, A66R4]
    obtain ⟨oZ39, hoZ39, h⟩ := bind_s h
    try refine ZF trivial ?_
    refine join_rule0 (blk_rule0 (loop_rule (w_impl_groupsL3 nZ0) hoZ39 ?_)) ?_
    · exact ZK (ZA S_impl_groupsL3.eq_1 SX_impl_groupsL3.eq_1)
    · simp only [ZC, SX_impl_groupsL3, A66R6]
      cases h
      exact ZL trivial V66.eq_1
theorem w_impl_groupOf_c1 (listZ0 : List Int) (p1Z0 : Int) {r : Bool} (h : M_impl_groupOf_c1 listZ0 p1Z0 = some r) : Ok Tryz.prog 163 [.lst .o 1 (listZ0.map AV.i), .bp (.i p1Z0) 0] ((fun r => .b r) r) := by
  refine ok_of_body hmix m163 rfl ?_
  unfold M_impl_groupOf_c1 at h
  simp only [ZC, A163, V163, body_eq]
  obtain ⟨rZ1, hrZ1, h⟩ := bind_s h
  refine ZF trivial ?_
  refine ZS trivial (w_slices_Contains_Lint_int _ _ hrZ1) ?_
  refine ZG ?_
  cases h
  exact ZL trivial V163.eq_1
def S_slices_IndexFunc_LLint_LintL1 (sZ0 : List (List Int)) (F_fZ0 : Nat) (C_fZ0 : List AV) (v : Int) : St := ⟨[(0, .lst .o 1 (sZ0.map (e_Li .o))), (1, .fn F_fZ0 C_fZ0), (7, .i (sZ0.length : Int)), (8, .i v)], []⟩
def SX_slices_IndexFunc_LLint_LintL1 (v : Unit) : St := ⟨[], []⟩
theorem w_slices_IndexFunc_LLint_LintL1 (sZ0 : List (List Int)) (fZ0 : (List Int) → Option Bool) (F_fZ0 : Nat) (C_fZ0 : List AV) (hC_fZ0 : Fixed C_fZ0) (hf_fZ0 : ∀ (x0 : List Int) (r : Bool), fZ0 x0 = some r → Ok Tryz.prog F_fZ0 ((.lst .o 1 (x0.map AV.i)) :: C_fZ0) (.b r)) (sZ1 : Int) (o : Int ⊕ (Unit ⊕ Int)) (h : M_slices_IndexFunc_LLint_LintL1 sZ0 fZ0 sZ1 = some o) : AWP (OkS Tryz.prog) A162L1 (qL [0, 1, 7, 8] [] (S_slices_IndexFunc_LLint_LintL1 sZ0 F_fZ0 C_fZ0) (qS (qX 0 [] [] (SX_slices_IndexFunc_LLint_LintL1)) (qR V162 (fun r => .i r))) o) (S_slices_IndexFunc_LLint_LintL1 sZ0 F_fZ0 C_fZ0 sZ1) := by
  unfold M_slices_IndexFunc_LLint_LintL1 at h
  simp only [ZC, S_slices_IndexFunc_LLint_LintL1, A162L1]
  obtain ⟨cZ2, h⟩ | ⟨cZ2, h⟩ := cond_s h
  · obtain ⟨yZ3, hyZ3, h⟩ := bind_s h
    obtain ⟨hyZ3a, hyZ3b⟩ := geti_s hyZ3
    obtain ⟨rZ4, hrZ4, h⟩ := bind_s h
    refine ZF (ZA cZ2 (ZA hyZ3a hyZ3b)) ?_
    refine ZS (ZA cZ2 (ZA hyZ3a (ZA hyZ3b hC_fZ0.1))) (hf_fZ0 _ _ hrZ4) ?_
    refine ZG ?_
    obtain ⟨cZ5, h⟩ | ⟨cZ5, h⟩ := cond_s h
    · cases h
      exact ZL (ZA cZ2 (ZA hyZ3a (ZA hyZ3b cZ5))) (ZA V162.eq_1 (ZA hC_fZ0.2 ((fixed_ren hC_fZ0))))
    · cases h
      exact ZL (ZA cZ2 (ZA hyZ3a (ZA hyZ3b cZ5))) (ZA S_slices_IndexFunc_LLint_LintL1.eq_1 (ZA SX_slices_IndexFunc_LLint_LintL1.eq_1 (ZA hC_fZ0.2 ((fixed_ren hC_fZ0)))))
  · cases h
    exact ZL cZ2 (ZA S_slices_IndexFunc_LLint_LintL1.eq_1 (ZA SX_slices_IndexFunc_LLint_LintL1.eq_1 (ZA hC_fZ0.2 ((fixed_ren hC_fZ0)))))
theorem w_slices_IndexFunc_LLint_Lint (sZ0 : List (List Int)) (fZ0 : (List Int) → Option Bool) {r : Int} (h : M_slices_IndexFunc_LLint_Lint sZ0 fZ0 = some r) (F_fZ0 : Nat) (C_fZ0 : List AV) (hC_fZ0 : Fixed C_fZ0) (hf_fZ0 : ∀ (x0 : List Int) (r : Bool), fZ0 x0 = some r → Ok Tryz.prog F_fZ0 ((.lst .o 1 (x0.map AV.i)) :: C_fZ0) (.b r)) : Ok Tryz.prog 162 [.lst .o 1 (sZ0.map (e_Li .o)), .fn F_fZ0 C_fZ0] ((fun r => .i r) r) := by
  refine ok_of_body hmix m162 rfl ?_
  unfold M_slices_IndexFunc_LLint_Lint at h
  simp only [ZC, A162, V162, body_eq]
  obtain ⟨oZ6, hoZ6, h⟩ := bind_s h
  try refine ZF trivial ?_
  refine join_rule (o := oZ6) (blk_rule sideR (loop_rule (w_slices_IndexFunc_LLint_LintL1 sZ0 fZ0 F_fZ0 C_fZ0 hC_fZ0 hf_fZ0) hoZ6 ?_)) (fun vZ7 hv => ?_) (fun xZ8 hv e τ hne hq => ?_)
  · exact ZK (ZA S_slices_IndexFunc_LLint_LintL1.eq_1 (ZA SX_slices_IndexFunc_LLint_LintL1.eq_1 (ZA hC_fZ0.2 ((fixed_ren hC_fZ0)))))
  · subst hv
    simp only [] at h
    simp only [ZC, SX_slices_IndexFunc_LLint_LintL1, A162R2]
    cases h
    exact ZL trivial (ZA V162.eq_1 (ZA hC_fZ0.2 ((fixed_ren hC_fZ0))))
  · subst hv
    simp only [] at h
    obtain ⟨rfl, qZ9⟩ := hq
    cases h
    exact qZ9
theorem w_impl_groupOf (nZ0 : TNetwork) (fiberZ0 : Int) {r : Int} (h : M_impl_groupOf nZ0 fiberZ0 = some r) : Ok Tryz.prog 150 [.agg [.lst .o 1 (nZ0.Nodes.map AV.z), .lst .o 4 (nZ0.Fibers.map (e_TFiber .o))], .i fiberZ0] ((fun r => .i r) r) := by
  refine ok_of_body hmix m150 rfl ?_
  unfold M_impl_groupOf at h
  simp only [ZC, A150, V150, body_eq]
  obtain ⟨rZ1, hrZ1, h⟩ := bind_s h
  refine ZF trivial ?_
  refine ZU trivial (w_impl_groups _ hrZ1) ?_
  refine ZG ?_
  obtain ⟨rZ2, hrZ2, h⟩ := bind_s h
  refine ZF trivial ?_
  refine ZS trivial (w_slices_IndexFunc_LLint_Lint _ _ hrZ2 163 [.bp (.i fiberZ0) 0] ⟨fun ρ k => by simp only [VS1, VS2, VS3, VS4, VS5, VS6, VT1, VT2, finM_ret, finM_nrm, decide_true, decide_false, List.nodup_nil, List.nodup_cons, oks_p, oks_m, oks_h, ne_eq, not_false_eq_true, Int.reduceEq, Int.reduceNe, true_and, false_and, Nat.reduceSub, Nat.reduceMul, ↓reduceIte, reduceCtorEq, Nat.reduceEqDiff, Nat.reduceAdd, Nat.reduceLeDiff, Int.reduceLE], by simp [mentsL, AV.ments]⟩ (fun _ _ h => w_impl_groupOf_c1 _ _ h)) ?_
  refine ZG ?_
  cases h
  exact ZL trivial V150.eq_1
def S_impl_risksOfL1 (nZ0 : TNetwork) (fibersZ0 : List Int) (v : Int × List Int) : St := ⟨[(2, .pt 2 0 0), (5, .sl 5 0 v.2.length), (9, .lst .o 1 (fibersZ0.map AV.i)), (10, .i (fibersZ0.length : Int)), (11, .i v.1)], [(2, .var (.agg [.lst .o 1 (nZ0.Nodes.map AV.z), .lst .o 4 (nZ0.Fibers.map (e_TFiber .o))])), (5, .arr 1 (v.2.map AV.i))]⟩
def SX_impl_risksOfL1 (v : List Int) : St := ⟨[(5, .sl 5 0 v.length)], [(5, .arr 1 (v.map AV.i))]⟩
theorem w_impl_risksOfL1 (nZ0 : TNetwork) (fibersZ0 : List Int) (sZ1 : Int × List Int) (o : (Int × List Int) ⊕ (List Int)) (h : M_impl_risksOfL1 nZ0 fibersZ0 sZ1 = some o) : AWP (OkS Tryz.prog) A145L1 (qL [2, 5, 9, 10, 11] [2, 5] (S_impl_risksOfL1 nZ0 fibersZ0) (qX 0 [5] [5] (SX_impl_risksOfL1)) o) (S_impl_risksOfL1 nZ0 fibersZ0 sZ1) := by
  unfold M_impl_risksOfL1 at h
  simp only [ZC, S_impl_risksOfL1, A145L1]
  obtain ⟨cZ2, h⟩ | ⟨cZ2, h⟩ := cond_s h
  · obtain ⟨yZ3, hyZ3, h⟩ := bind_s h
    obtain ⟨hyZ3a, hyZ3b⟩ := geti_s hyZ3
    obtain ⟨rZ4, hrZ4, h⟩ := bind_s h
    refine ZF (ZA cZ2 (ZA hyZ3a hyZ3b)) ?_
    refine ZS (ZA cZ2 (ZA hyZ3a hyZ3b)) (w_impl_groupOf _ _ hrZ4) ?_
    refine ZG ?_
    obtain ⟨lZ5, hlZ5, h⟩ := bnd_s h
    have eZ6 : Row.arr 1 [(.i rZ4 : AV)] = Row.arr 1 (lZ5.map AV.i) := by rw [← hlZ5]; rfl
    have jjZ7 : lZ5.length = 1 := by rw [← hlZ5]; rfl
    obtain ⟨uZ8, huZ8, h⟩ := bind_s h
    have huZ8g := grd_s huZ8
    obtain ⟨lZ9, hlZ9, h⟩ := bnd_s h
    have eZ10 : sZ1.2.map AV.i ++ lZ5.map AV.i = lZ9.map AV.i := by rw [← hlZ9, List.map_append]
    have eZ11 : sZ1.2.length + 1 = lZ9.length := by simp [← hlZ5, ← hlZ9] <;> omega
    rw [eZ11] at huZ8g
    cases h
    exact ZL (ZA cZ2 (ZA hyZ3a (ZA hyZ3b (ZA eZ6 (ZA jjZ7 (ZA huZ8g (ZA eZ10 eZ11))))))) (ZA S_impl_risksOfL1.eq_1 (ZA SX_impl_risksOfL1.eq_1 (ZA hlZ5.symm (ZA hlZ9.symm jjZ7))))
  · cases h
    exact ZL cZ2 (ZA S_impl_risksOfL1.eq_1 SX_impl_risksOfL1.eq_1)
theorem w_impl_risksOf (nZ0 : TNetwork) (fibersZ0 : List Int) {r : List Int} (h : M_impl_risksOf nZ0 fibersZ0 = some r) : Ok Tryz.prog 145 [.agg [.lst .o 1 (nZ0.Nodes.map AV.z), .lst .o 4 (nZ0.Fibers.map (e_TFiber .o))], .lst .o 1 (fibersZ0.map AV.i)] ((fun r => .lst .u 1 (r.map AV.i)) r) := by
  refine ok_of_body hmix m145 rfl ?_
  unfold M_impl_risksOf at h
  simp only [ZC, A145, V145, body_eq]
  obtain ⟨oZ12, hoZ12, h⟩ := bind_s h
  try refine ZF trivial ?_
  refine join_rule0 (blk_rule0 (loop_rule (w_impl_risksOfL1 nZ0 fibersZ0) hoZ12 ?_)) ?_
  · exact ZK (ZA S_impl_risksOfL1.eq_1 SX_impl_risksOfL1.eq_1)
  · simp only [ZC, SX_impl_risksOfL1, A145R2]
    cases h
    exact ZL trivial V145.eq_1
theorem w_math_bits_Len64 (xZ0 : Int) {r : Int} (h : M_math_bits_Len64 xZ0 = some r) : Ok Tryz.prog 161 [.sc (.int .u64 xZ0)] ((fun r => .i r) r) := by
  refine ok_of_body hmix m161 rfl ?_
  unfold M_math_bits_Len64 at h
  simp only [ZC, A161, V161, body_eq]
  obtain ⟨oZ2, hoZ2, h⟩ := bind_s h
  try refine ZF trivial ?_
  refine join_rule0 (sh := (fun v => ⟨[(0, .sc (.int .u64 v.1)), (2, .i v.2)], []⟩)) (s := oZ2) ?_ ?_
  · replace h := hoZ2
    obtain ⟨cZ1, h⟩ | ⟨cZ1, h⟩ := cond_s h
    · cases h
      exact ZL cZ1 trivial
    · cases h
      exact ZL cZ1 trivial
  · simp only [ZC, A161R1]
    obtain ⟨oZ4, hoZ4, h⟩ := bind_s h
    try refine ZF trivial ?_
    refine join_rule0 (sh := (fun v => ⟨[(0, .sc (.int .u64 v.1)), (2, .i v.2)], []⟩)) (s := oZ4) ?_ ?_
    · replace h := hoZ4
      obtain ⟨cZ3, h⟩ | ⟨cZ3, h⟩ := cond_s h
      · cases h
        exact ZL cZ3 trivial
      · cases h
        exact ZL cZ3 trivial
    · simp only [ZC, A161R2]
      obtain ⟨oZ6, hoZ6, h⟩ := bind_s h
      try refine ZF trivial ?_
      refine join_rule0 (sh := (fun v => ⟨[(0, .sc (.int .u64 v.1)), (2, .i v.2)], []⟩)) (s := oZ6) ?_ ?_
      · replace h := hoZ6
        obtain ⟨cZ5, h⟩ | ⟨cZ5, h⟩ := cond_s h
        · cases h
          exact ZL cZ5 trivial
        · cases h
          exact ZL cZ5 trivial
      · simp only [ZC, A161R3]
        obtain ⟨yZ7, hyZ7, h⟩ := bind_s h
        obtain ⟨hyZ7a, hyZ7b⟩ := getz_s hyZ7
        cases h
        exact ZL (ZA hyZ7a hyZ7b) V161.eq_1
theorem w_math_bits_Len (xZ0 : Int) {r : Int} (h : M_math_bits_Len xZ0 = some r) : Ok Tryz.prog 147 [.sc (.int .u64 xZ0)] ((fun r => .i r) r) := by
  refine ok_of_body hmix m147 rfl ?_
  unfold M_math_bits_Len at h
  simp only [ZC, A147, V147, body_eq]
  obtain ⟨rZ1, hrZ1, h⟩ := bind_s h
  refine ZF trivial ?_
  refine ZS trivial (w_math_bits_Len64 _ hrZ1) ?_
  refine ZG ?_
  cases h
  exact ZL trivial V147.eq_1
theorem w_cmp_Less_int (xZ0 : Int) (yZ0 : Int) {r : Bool} (h : M_cmp_Less_int xZ0 yZ0 = some r) : Ok Tryz.prog 157 [.i xZ0, .i yZ0] ((fun r => .b r) r) := by
  refine ok_of_body hmix m157 rfl ?_
  unfold M_cmp_Less_int at h
  simp only [ZC, A157, V157, body_eq]
  obtain ⟨rZ1, hrZ1, h⟩ := bind_s h
  refine ZF trivial ?_
  refine ZS trivial (w_cmp_isNaN_int _ hrZ1) ?_
  refine ZG ?_
  obtain ⟨cZ2, h⟩ | ⟨cZ2, h⟩ := cond_s h
  · obtain ⟨rZ3, hrZ3, h⟩ := bind_s h
    refine ZF cZ2 ?_
    refine ZS cZ2 (w_cmp_isNaN_int _ hrZ3) ?_
    refine ZG ?_
    obtain ⟨cZ4, h⟩ | ⟨cZ4, h⟩ := cond_s h
    · cases h
      exact ZL (ZA cZ2 cZ4) V157.eq_1
    · cases h
      exact ZL (ZA cZ2 cZ4) V157.eq_1
  · cases h
    exact ZL cZ2 V157.eq_1
def S_slices_insertionSortOrdered_intM1L2 (aaZ0 : Int) (abZ0 : Int) (sZ1 : Int × List Int) (v : Int × List Int) : St := ⟨[(0, .sl 1000000000 0 v.2.length), (1, .i aaZ0), (2, .i abZ0), (6, .i sZ1.1), (7, .i v.1)], [(1000000000, .arr 1 (v.2.map AV.i))]⟩
def SX_slices_insertionSortOrdered_intM1L2 (aaZ0 : Int) (abZ0 : Int) (sZ1 : Int × List Int) (v : List Int) : St := ⟨[(0, .sl 1000000000 0 v.length), (1, .i aaZ0), (2, .i abZ0), (6, .i sZ1.1)], [(1000000000, .arr 1 (v.map AV.i))]⟩
theorem w_slices_insertionSortOrdered_intM1L2 (aaZ0 : Int) (abZ0 : Int) (sZ1 : Int × List Int) (sZ3 : Int × List Int) (o : (Int × List Int) ⊕ (List Int)) (h : M_slices_insertionSortOrdered_intM1L2 aaZ0 sZ3 = some o) : AWP (OkS Tryz.prog) A151M1L2 (qL [0, 1, 2, 6, 7] [1000000000] (S_slices_insertionSortOrdered_intM1L2 aaZ0 abZ0 sZ1) (qX 2 [0, 1, 2, 6] [1000000000] (SX_slices_insertionSortOrdered_intM1L2 aaZ0 abZ0 sZ1)) o) (S_slices_insertionSortOrdered_intM1L2 aaZ0 abZ0 sZ1 sZ3) := by
  unfold M_slices_insertionSortOrdered_intM1L2 at h
  simp only [ZC, S_slices_insertionSortOrdered_intM1L2, A151M1L2]
  obtain ⟨oZ10, hoZ10, h⟩ := bind_s h
  try refine ZF trivial ?_
  refine join_rule0 (sh := (fun v => ⟨[(0, .sl 1000000000 0 sZ3.2.length), (1, .i aaZ0), (2, .i abZ0), (6, .i sZ1.1), (7, .i sZ3.1), (30, .b v)], [(1000000000, .arr 1 (sZ3.2.map AV.i))]⟩)) (s := oZ10) ?_ ?_
  · replace h := hoZ10
    obtain ⟨cZ4, h⟩ | ⟨cZ4, h⟩ := cond_s h
    · obtain ⟨kZ5, hkZ5, h⟩ := bind_s h
      obtain ⟨hkZ5a, hkZ5b⟩ := grd_s hkZ5
      obtain ⟨yZ6, hyZ6, h⟩ := bind_s h
      obtain ⟨kZ7, hkZ7, h⟩ := bind_s h
      obtain ⟨hkZ7a, hkZ7b⟩ := grd_s hkZ7
      obtain ⟨yZ8, hyZ8, h⟩ := bind_s h
      obtain ⟨rZ9, hrZ9, h⟩ := bind_s h
      refine ZF (ZA cZ4 (ZA hkZ5a (ZA hkZ5b (ZA hyZ6 (ZA hkZ7a (ZA hkZ7b hyZ8)))))) ?_
      refine ZS (ZA cZ4 (ZA hkZ5a (ZA hkZ5b (ZA hyZ6 (ZA hkZ7a (ZA hkZ7b hyZ8)))))) (w_cmp_Less_int _ _ hrZ9) ?_
      refine ZG ?_
      cases h
      exact ZL (ZA cZ4 (ZA hkZ5a (ZA hkZ5b (ZA hyZ6 (ZA hkZ7a (ZA hkZ7b hyZ8)))))) trivial
    · cases h
      exact ZL cZ4 trivial
  · simp only [ZC, A151M1R1]
    obtain ⟨cZ11, h⟩ | ⟨cZ11, h⟩ := cond_s h
    · obtain ⟨kZ12, hkZ12, h⟩ := bind_s h
      obtain ⟨hkZ12a, hkZ12b⟩ := grd_s hkZ12
      obtain ⟨yZ13, hyZ13, h⟩ := bind_s h
      obtain ⟨kZ14, hkZ14, h⟩ := bind_s h
      obtain ⟨hkZ14a, hkZ14b⟩ := grd_s hkZ14
      obtain ⟨yZ15, hyZ15, h⟩ := bind_s h
      obtain ⟨lZ16, hlZ16, h⟩ := bnd_s h
      have eZ17 : (sZ3.2.map AV.i).set (Int.toNat sZ3.1) (.i yZ13) = lZ16.map AV.i := by rw [← hlZ16, List.map_set]
      obtain ⟨yZ18, hyZ18, h⟩ := bind_s h
      obtain ⟨lZ19, hlZ19, h⟩ := bnd_s h
      have eZ20 : (lZ16.map AV.i).set (Int.toNat (IntKind.wrap .i64 (sZ3.1 - 1))) (.i yZ15) = lZ19.map AV.i := by rw [← hlZ19, List.map_set]
      cases h
      exact ZL (ZA cZ11 (ZA hkZ12a (ZA hkZ12b (ZA hyZ13 (ZA hkZ14a (ZA hkZ14b (ZA hyZ15 (ZA eZ17 (ZA hyZ18 eZ20))))))))) (ZA S_slices_insertionSortOrdered_intM1L2.eq_1 (ZA SX_slices_insertionSortOrdered_intM1L2.eq_1 (ZA hlZ16.symm hlZ19.symm)))
    · cases h
      exact ZL cZ11 (ZA S_slices_insertionSortOrdered_intM1L2.eq_1 SX_slices_insertionSortOrdered_intM1L2.eq_1)
def S_slices_insertionSortOrdered_intM1L1 (aaZ0 : Int) (abZ0 : Int) (v : Int × List Int) : St := ⟨[(0, .sl 1000000000 0 v.2.length), (1, .i aaZ0), (2, .i abZ0), (6, .i v.1)], [(1000000000, .arr 1 (v.2.map AV.i))]⟩
def SX_slices_insertionSortOrdered_intM1L1 (v : List Int) : St := ⟨[], [(1000000000, .arr 1 (v.map AV.i))]⟩
theorem w_slices_insertionSortOrdered_intM1L1 (aaZ0 : Int) (abZ0 : Int) (sZ1 : Int × List Int) (o : (Int × List Int) ⊕ (List Int)) (h : M_slices_insertionSortOrdered_intM1L1 aaZ0 abZ0 sZ1 = some o) : AWP (OkS Tryz.prog) A151M1L4 (qL [0, 1, 2, 6] [1000000000] (S_slices_insertionSortOrdered_intM1L1 aaZ0 abZ0) (qX 0 [] [1000000000] (SX_slices_insertionSortOrdered_intM1L1)) o) (S_slices_insertionSortOrdered_intM1L1 aaZ0 abZ0 sZ1) := by
  unfold M_slices_insertionSortOrdered_intM1L1 at h
  simp only [ZC, S_slices_insertionSortOrdered_intM1L1, A151M1L4]
  obtain ⟨cZ2, h⟩ | ⟨cZ2, h⟩ := cond_s h
  · obtain ⟨oZ23, hoZ23, h⟩ := bind_s h
    try refine ZF cZ2 ?_
    refine join_rule0 (sh := (fun v => ⟨[(0, .sl 1000000000 0 v.length), (1, .i aaZ0), (2, .i abZ0), (6, .i sZ1.1)], [(1000000000, .arr 1 (v.map AV.i))]⟩)) (s := oZ23) ?_ ?_
    · replace h := hoZ23
      obtain ⟨oZ21, hoZ21, h⟩ := bind_s h
      try refine ZF cZ2 ?_
      first | refine tail_rule0 (blk_rule0 (loop_rule (w_slices_insertionSortOrdered_intM1L2 aaZ0 abZ0 sZ1) hoZ21 ?_)) (fun τ qZ22 => ?_) | refine tail_blk0 (loop_rule (w_slices_insertionSortOrdered_intM1L2 aaZ0 abZ0 sZ1) hoZ21 ?_) (fun τ qZ22 => ?_)
      · exact ZK (ZA S_slices_insertionSortOrdered_intM1L2.eq_1 SX_slices_insertionSortOrdered_intM1L2.eq_1)
      · cases h
        try refine ZF trivial ?_
        refine ⟨rfl, Shp.sub qZ22 (by decide) (by decide) ?_⟩
        exact ZK SX_slices_insertionSortOrdered_intM1L2.eq_1
    · simp only [ZC, A151M1R3]
      cases h
      exact ZL cZ2 (ZA S_slices_insertionSortOrdered_intM1L1.eq_1 SX_slices_insertionSortOrdered_intM1L1.eq_1)
  · cases h
    exact ZL cZ2 (ZA S_slices_insertionSortOrdered_intM1L1.eq_1 SX_slices_insertionSortOrdered_intM1L1.eq_1)
theorem w_slices_insertionSortOrdered_intM1 (aaZ0 : Int) (abZ0 : Int) (acZ0 : List Int) {r : List Int} (h : M_slices_insertionSortOrdered_intM1 aaZ0 abZ0 acZ0 = some r) : OkM Tryz.prog 151 [.sl 1000000000 0 acZ0.length, .i aaZ0, .i abZ0] [(1000000000, .arr 1 (acZ0.map AV.i))] ((fun (r : List Int) => .tup []) r) ((fun (r : List Int) => [(1000000000, .arr 1 (r.map AV.i))]) r) := by
  refine okM_of_body (lr := [1000000000]) hmix m151M1 rfl rfl ?_
  unfold M_slices_insertionSortOrdered_intM1 at h
  simp only [ZC, A151M1, V151M1]
  obtain ⟨oZ24, hoZ24, h⟩ := bind_s h
  try refine ZF trivial ?_
  first | refine tail_rule0 (blk_rule0 (loop_rule (w_slices_insertionSortOrdered_intM1L1 aaZ0 abZ0) hoZ24 ?_)) (fun τ qZ25 => ?_) | refine tail_blk0 (loop_rule (w_slices_insertionSortOrdered_intM1L1 aaZ0 abZ0) hoZ24 ?_) (fun τ qZ25 => ?_)
  · exact ZK (ZA S_slices_insertionSortOrdered_intM1L1.eq_1 SX_slices_insertionSortOrdered_intM1L1.eq_1)
  · cases h
    refine finM_shp qZ25 (by decide) ?_ rfl
    exact ZK (ZA V151M1.eq_1 SX_slices_insertionSortOrdered_intM1L1.eq_1)
def S_slices_pdqsortOrdered_intM1L1 (aaZ0 : Int) (abZ0 : Int) (acZ0 : Int) (adZ0 : List Int) (v : Unit) : St := ⟨[(0, .sl 1000000000 0 adZ0.length), (1, .i aaZ0), (2, .i abZ0), (3, .i acZ0), (8, .b true), (9, .b true)], [(1000000000, .arr 1 (adZ0.map AV.i))]⟩
def SX_slices_pdqsortOrdered_intM1L1 (v : Empty) : St := ⟨[], []⟩
theorem w_slices_pdqsortOrdered_intM1L1 (aaZ0 : Int) (abZ0 : Int) (acZ0 : Int) (adZ0 : List Int) (sZ1 : Unit) (o : Unit ⊕ (Empty ⊕ (List Int))) (h : M_slices_pdqsortOrdered_intM1L1 aaZ0 abZ0 acZ0 adZ0 sZ1 = some o) : AWP (OkS Tryz.prog) A146M1L1 (qL [0, 1, 2, 3, 8, 9] [1000000000] (S_slices_pdqsortOrdered_intM1L1 aaZ0 abZ0 acZ0 adZ0) (qS (qX 0 [] [] (SX_slices_pdqsortOrdered_intM1L1)) (qM V146M1 [1000000000] (fun (r : List Int) => .tup []) (fun (r : List Int) => [(1000000000, .arr 1 (r.map AV.i))]))) o) (S_slices_pdqsortOrdered_intM1L1 aaZ0 abZ0 acZ0 adZ0 sZ1) := by
  unfold M_slices_pdqsortOrdered_intM1L1 at h
  simp only [ZC, S_slices_pdqsortOrdered_intM1L1, A146M1L1]
  obtain ⟨cZ2, h⟩ | ⟨cZ2, h⟩ := cond_s h
  · obtain ⟨rZ3, hrZ3, h⟩ := bind_s h
    refine ZF cZ2 ?_
    refine ZW cZ2 (w_slices_insertionSortOrdered_intM1 _ _ _ hrZ3) (h2 := by first | exact nm_ok [1000000000] rfl (by decide +kernel) | exact nm_ok2 [1000000000] [] rfl (by decide +kernel) ZQ | exact ZQ) (hk := ?_)
    refine ZG ?_
    cases h
    exact ZL cZ2 V146M1.eq_1
  · obtain ⟨cZ4, h⟩ | ⟨cZ4, h⟩ := cond_s h
    · cases h
    · cases h
theorem w_slices_pdqsortOrdered_intM1 (aaZ0 : Int) (abZ0 : Int) (acZ0 : Int) (adZ0 : List Int) {r : List Int} (h : M_slices_pdqsortOrdered_intM1 aaZ0 abZ0 acZ0 adZ0 = some r) : OkM Tryz.prog 146 [.sl 1000000000 0 adZ0.length, .i aaZ0, .i abZ0, .i acZ0] [(1000000000, .arr 1 (adZ0.map AV.i))] ((fun (r : List Int) => .tup []) r) ((fun (r : List Int) => [(1000000000, .arr 1 (r.map AV.i))]) r) := by
  refine okM_of_body (lr := [1000000000]) hmix m146M1 rfl rfl ?_
  unfold M_slices_pdqsortOrdered_intM1 at h
  simp only [ZC, A146M1, V146M1]
  obtain ⟨oZ5, hoZ5, h⟩ := bind_s h
  try refine ZF trivial ?_
  first | refine tail_rule (o := oZ5) (blk_rule sideM (loop_rule (w_slices_pdqsortOrdered_intM1L1 aaZ0 abZ0 acZ0 adZ0) hoZ5 ?_)) (fun vZ6 hv τ qZ8 => ?_) (fun xZ7 hv e τ hne hq => ?_) | refine tail_blk (o := oZ5) sideM (loop_rule (w_slices_pdqsortOrdered_intM1L1 aaZ0 abZ0 acZ0 adZ0) hoZ5 ?_) (fun vZ6 hv τ qZ8 => ?_) (fun xZ7 hv e τ hne hq => ?_)
  · exact ZK (ZA S_slices_pdqsortOrdered_intM1L1.eq_1 SX_slices_pdqsortOrdered_intM1L1.eq_1)
  · exact vZ6.elim
  · subst hv
    simp only [] at h
    obtain ⟨rfl, qZ9⟩ := hq
    cases h
    exact qZ9
theorem w_slices_Sort_Lint_intM1 (aaZ0 : List Int) {r : List Int} (h : M_slices_Sort_Lint_intM1 aaZ0 = some r) : OkM Tryz.prog 135 [.sl 1000000000 0 aaZ0.length] [(1000000000, .arr 1 (aaZ0.map AV.i))] ((fun (r : List Int) => .tup []) r) ((fun (r : List Int) => [(1000000000, .arr 1 (r.map AV.i))]) r) := by
  refine okM_of_body (lr := [1000000000]) hmix m135M1 rfl rfl ?_
  unfold M_slices_Sort_Lint_intM1 at h
  simp only [ZC, A135M1, V135M1]
  obtain ⟨rZ1, hrZ1, h⟩ := bind_s h
  refine ZF trivial ?_
  refine ZS trivial (w_math_bits_Len _ hrZ1) ?_
  refine ZG ?_
  obtain ⟨rZ2, hrZ2, h⟩ := bind_s h
  refine ZF trivial ?_
  refine ZW trivial (w_slices_pdqsortOrdered_intM1 _ _ _ _ hrZ2) (h2 := by first | exact nm_ok [1000000000] rfl (by decide +kernel) | exact nm_ok2 [1000000000] [] rfl (by decide +kernel) ZQ | exact ZQ) (hk := ?_)
  refine ZG ?_
  cases h
  exact ZL trivial V135M1.eq_1
def S_slices_Compact_Lint_intM1L2 (aaZ0 : Nat) (abZ0 : Nat) (sZ2 : Int) (v : Int × Int × List Int) : St := ⟨[(0, .sl 1000000000 aaZ0 abZ0), (3, .i v.1), (4, .sl 1000000000 (aaZ0 + (Int.toNat sZ2)) (abZ0 - (Int.toNat sZ2))), (5, .i v.2.1)], [(1000000000, .arr 1 (v.2.2.map AV.i))]⟩
def SX_slices_Compact_Lint_intM1L2 (aaZ0 : Nat) (abZ0 : Nat) (v : Int × List Int) : St := ⟨[(0, .sl 1000000000 aaZ0 abZ0), (3, .i v.1)], [(1000000000, .arr 1 (v.2.map AV.i))]⟩
theorem w_slices_Compact_Lint_intM1L2 (aaZ0 : Nat) (abZ0 : Nat) (sZ2 : Int) (sZ10 : Int × Int × List Int) (o : (Int × Int × List Int) ⊕ (Int × List Int)) (h : M_slices_Compact_Lint_intM1L2 aaZ0 abZ0 sZ2 sZ10 = some o) : AWP (OkS Tryz.prog) A136M1L1 (qL [0, 3, 4, 5] [1000000000] (S_slices_Compact_Lint_intM1L2 aaZ0 abZ0 sZ2) (qX 2 [0, 3] [1000000000] (SX_slices_Compact_Lint_intM1L2 aaZ0 abZ0)) o) (S_slices_Compact_Lint_intM1L2 aaZ0 abZ0 sZ2 sZ10) := by
  unfold M_slices_Compact_Lint_intM1L2 at h
  simp only [ZC, S_slices_Compact_Lint_intM1L2, A136M1L1]
  obtain ⟨cZ11, h⟩ | ⟨cZ11, h⟩ := cond_s h
  · obtain ⟨kZ12, hkZ12, h⟩ := bind_s h
    obtain ⟨hkZ12a, hkZ12b⟩ := grd_s hkZ12
    obtain ⟨yZ13, hyZ13, h⟩ := bind_s h
    obtain ⟨kZ14, hkZ14, h⟩ := bind_s h
    obtain ⟨hkZ14a, hkZ14b⟩ := grd_s hkZ14
    obtain ⟨yZ15, hyZ15, h⟩ := bind_s h
    obtain ⟨cZ16, h⟩ | ⟨cZ16, h⟩ := cond_s h
    · obtain ⟨kZ17, hkZ17, h⟩ := bind_s h
      obtain ⟨hkZ17a, hkZ17b⟩ := grd_s hkZ17
      obtain ⟨yZ18, hyZ18, h⟩ := bind_s h
      obtain ⟨lZ19, hlZ19, h⟩ := bnd_s h
      have eZ20 : (sZ10.2.2.map AV.i).set (aaZ0 + (Int.toNat sZ10.1)) (.i yZ13) = lZ19.map AV.i := by rw [← hlZ19, List.map_set]
      cases h
      exact ZL (ZA cZ11 (ZA hkZ12a (ZA hkZ12b (ZA hyZ13 (ZA hkZ14a (ZA hkZ14b (ZA hyZ15 (ZA cZ16 (ZA hkZ17a (ZA hkZ17b (ZA hyZ18 eZ20))))))))))) (ZA S_slices_Compact_Lint_intM1L2.eq_1 (ZA SX_slices_Compact_Lint_intM1L2.eq_1 hlZ19.symm))
    · cases h
      exact ZL (ZA cZ11 (ZA hkZ12a (ZA hkZ12b (ZA hyZ13 (ZA hkZ14a (ZA hkZ14b (ZA hyZ15 cZ16))))))) (ZA S_slices_Compact_Lint_intM1L2.eq_1 SX_slices_Compact_Lint_intM1L2.eq_1)
  · cases h
    exact ZL cZ11 (ZA S_slices_Compact_Lint_intM1L2.eq_1 SX_slices_Compact_Lint_intM1L2.eq_1)
def S_slices_Compact_Lint_intM1L1 (aaZ0 : Nat) (abZ0 : Nat) (acZ0 : List Int) (v : Int) : St := ⟨[(0, .sl 1000000000 aaZ0 abZ0), (3, .i v)], [(1000000000, .arr 1 (acZ0.map AV.i))]⟩
def SX_slices_Compact_Lint_intM1L1 (aaZ0 : Nat) (abZ0 : Nat) (acZ0 : List Int) (v : Unit) : St := ⟨[(0, .sl 1000000000 aaZ0 abZ0)], [(1000000000, .arr 1 (acZ0.map AV.i))]⟩
theorem w_slices_Compact_Lint_intM1L1 (aaZ0 : Nat) (abZ0 : Nat) (acZ0 : List Int) (sZ2 : Int) (o : Int ⊕ (Unit ⊕ (Nat × Nat × List Int))) (h : M_slices_Compact_Lint_intM1L1 aaZ0 abZ0 acZ0 sZ2 = some o) : AWP (OkS Tryz.prog) A136M1L3 (qL [0, 3] [1000000000] (S_slices_Compact_Lint_intM1L1 aaZ0 abZ0 acZ0) (qS (qX 0 [0] [1000000000] (SX_slices_Compact_Lint_intM1L1 aaZ0 abZ0 acZ0)) (qM V136M1 [1000000000] (fun (r : Nat × Nat × List Int) => .sl 1000000000 r.1 r.2.1) (fun (r : Nat × Nat × List Int) => [(1000000000, .arr 1 (r.2.2.map AV.i))]))) o) (S_slices_Compact_Lint_intM1L1 aaZ0 abZ0 acZ0 sZ2) := by
  unfold M_slices_Compact_Lint_intM1L1 at h
  simp only [ZC, S_slices_Compact_Lint_intM1L1, A136M1L3]
  obtain ⟨cZ3, h⟩ | ⟨cZ3, h⟩ := cond_s h
  · obtain ⟨kZ4, hkZ4, h⟩ := bind_s h
    obtain ⟨hkZ4a, hkZ4b⟩ := grd_s hkZ4
    obtain ⟨yZ5, hyZ5, h⟩ := bind_s h
    obtain ⟨kZ6, hkZ6, h⟩ := bind_s h
    obtain ⟨hkZ6a, hkZ6b⟩ := grd_s hkZ6
    obtain ⟨yZ7, hyZ7, h⟩ := bind_s h
    obtain ⟨cZ8, h⟩ | ⟨cZ8, h⟩ := cond_s h
    · obtain ⟨uZ9, huZ9, h⟩ := bind_s h
      obtain ⟨huZ9a, huZ9b, huZ9c, huZ9d⟩ := grd_s huZ9
      obtain ⟨oZ21, hoZ21, h⟩ := bind_s h
      try refine ZF (ZA cZ3 (ZA hkZ4a (ZA hkZ4b (ZA hyZ5 (ZA hkZ6a (ZA hkZ6b (ZA hyZ7 (ZA cZ8 (ZA huZ9a (ZA huZ9b (ZA huZ9c huZ9d))))))))))) ?_
      refine join_rule0 (blk_rule0 (loop_rule (w_slices_Compact_Lint_intM1L2 aaZ0 abZ0 sZ2) hoZ21 ?_)) ?_
      · exact ZK (ZA S_slices_Compact_Lint_intM1L2.eq_1 SX_slices_Compact_Lint_intM1L2.eq_1)
      · simp only [ZC, SX_slices_Compact_Lint_intM1L2, A136M1R2]
        obtain ⟨uZ22, huZ22, h⟩ := bind_s h
        obtain ⟨huZ22a, huZ22b, huZ22c, huZ22d⟩ := grd_s huZ22
        obtain ⟨lZ23, hlZ23, h⟩ := bnd_s h
        have eZ24 : over (oZ21.2.map AV.i) (aaZ0 + (Int.toNat oZ21.1)) (List.replicate (abZ0 - (Int.toNat oZ21.1)) (.i 0 : AV)) = lZ23.map AV.i := by rw [← hlZ23, ← over_map]; simp [List.map_take]
        obtain ⟨uZ25, huZ25, h⟩ := bind_s h
        obtain ⟨huZ25a, huZ25b, huZ25c, huZ25d⟩ := grd_s huZ25
        cases h
        exact ZL (ZA cZ3 (ZA hkZ4a (ZA hkZ4b (ZA hyZ5 (ZA hkZ6a (ZA hkZ6b (ZA hyZ7 (ZA cZ8 (ZA huZ9a (ZA huZ9b (ZA huZ9c (ZA huZ9d (ZA huZ22a (ZA huZ22b (ZA huZ22c (ZA huZ22d (ZA eZ24 (ZA huZ25a (ZA huZ25b (ZA huZ25c huZ25d)))))))))))))))))))) (ZA V136M1.eq_1 (ZA hlZ23.symm @over_length))
    · cases h
      exact ZL (ZA cZ3 (ZA hkZ4a (ZA hkZ4b (ZA hyZ5 (ZA hkZ6a (ZA hkZ6b (ZA hyZ7 cZ8))))))) (ZA S_slices_Compact_Lint_intM1L1.eq_1 SX_slices_Compact_Lint_intM1L1.eq_1)
  · cases h
    exact ZL cZ3 (ZA S_slices_Compact_Lint_intM1L1.eq_1 SX_slices_Compact_Lint_intM1L1.eq_1)
theorem w_slices_Compact_Lint_intM1 (aaZ0 : Nat) (abZ0 : Nat) (acZ0 : List Int) {r : Nat × Nat × List Int} (h : M_slices_Compact_Lint_intM1 aaZ0 abZ0 acZ0 = some r) : OkM Tryz.prog 136 [.sl 1000000000 aaZ0 abZ0] [(1000000000, .arr 1 (acZ0.map AV.i))] ((fun (r : Nat × Nat × List Int) => .sl 1000000000 r.1 r.2.1) r) ((fun (r : Nat × Nat × List Int) => [(1000000000, .arr 1 (r.2.2.map AV.i))]) r) := by
  refine okM_of_body (lr := [1000000000]) hmix m136M1 rfl rfl ?_
  unfold M_slices_Compact_Lint_intM1 at h
  simp only [ZC, A136M1, V136M1]
  obtain ⟨cZ1, h⟩ | ⟨cZ1, h⟩ := cond_s h
  · cases h
    exact ZL cZ1 V136M1.eq_1
  · obtain ⟨oZ26, hoZ26, h⟩ := bind_s h
    try refine ZF cZ1 ?_
    refine join_rule (o := oZ26) (blk_rule sideM (loop_rule (w_slices_Compact_Lint_intM1L1 aaZ0 abZ0 acZ0) hoZ26 ?_)) (fun vZ27 hv => ?_) (fun xZ28 hv e τ hne hq => ?_)
    · exact ZK (ZA S_slices_Compact_Lint_intM1L1.eq_1 SX_slices_Compact_Lint_intM1L1.eq_1)
    · subst hv
      simp only [] at h
      simp only [ZC, SX_slices_Compact_Lint_intM1L1, A136M1R4]
      cases h
      exact ZL cZ1 V136M1.eq_1
    · subst hv
      simp only [] at h
      obtain ⟨rfl, qZ29⟩ := hq
      cases h
      exact qZ29
def S_impl_commonL1 (aZ0 : List Int) (bZ0 : List Int) (v : Int × List Int) : St := ⟨[(1, .lst .o 1 (bZ0.map AV.i)), (5, .sl 5 0 v.2.length), (9, .lst .o 1 (aZ0.map AV.i)), (10, .i (aZ0.length : Int)), (11, .i v.1)], [(5, .arr 1 (v.2.map AV.i))]⟩
def SX_impl_commonL1 (v : List Int) : St := ⟨[(5, .sl 5 0 v.length)], [(5, .arr 1 (v.map AV.i))]⟩
theorem w_impl_commonL1 (aZ0 : List Int) (bZ0 : List Int) (sZ1 : Int × List Int) (o : (Int × List Int) ⊕ (List Int)) (h : M_impl_commonL1 aZ0 bZ0 sZ1 = some o) : AWP (OkS Tryz.prog) A113L1 (qL [1, 5, 9, 10, 11] [5] (S_impl_commonL1 aZ0 bZ0) (qX 0 [5] [5] (SX_impl_commonL1)) o) (S_impl_commonL1 aZ0 bZ0 sZ1) := by
  unfold M_impl_commonL1 at h
  simp only [ZC, S_impl_commonL1, A113L1]
  obtain ⟨cZ2, h⟩ | ⟨cZ2, h⟩ := cond_s h
  · obtain ⟨yZ3, hyZ3, h⟩ := bind_s h
    obtain ⟨hyZ3a, hyZ3b⟩ := geti_s hyZ3
    obtain ⟨rZ4, hrZ4, h⟩ := bind_s h
    refine ZF (ZA cZ2 (ZA hyZ3a hyZ3b)) ?_
    refine ZS (ZA cZ2 (ZA hyZ3a hyZ3b)) (w_slices_Contains_Lint_int _ _ hrZ4) ?_
    refine ZG ?_
    obtain ⟨cZ5, h⟩ | ⟨cZ5, h⟩ := cond_s h
    · obtain ⟨lZ6, hlZ6, h⟩ := bnd_s h
      have eZ7 : Row.arr 1 [(.i yZ3 : AV)] = Row.arr 1 (lZ6.map AV.i) := by rw [← hlZ6]; rfl
      have jjZ8 : lZ6.length = 1 := by rw [← hlZ6]; rfl
      obtain ⟨uZ9, huZ9, h⟩ := bind_s h
      have huZ9g := grd_s huZ9
      obtain ⟨lZ10, hlZ10, h⟩ := bnd_s h
      have eZ11 : sZ1.2.map AV.i ++ lZ6.map AV.i = lZ10.map AV.i := by rw [← hlZ10, List.map_append]
      have eZ12 : sZ1.2.length + 1 = lZ10.length := by simp [← hlZ6, ← hlZ10] <;> omega
      rw [eZ12] at huZ9g
      cases h
      exact ZL (ZA cZ2 (ZA hyZ3a (ZA hyZ3b (ZA cZ5 (ZA eZ7 (ZA jjZ8 (ZA huZ9g (ZA eZ11 eZ12)))))))) (ZA S_impl_commonL1.eq_1 (ZA SX_impl_commonL1.eq_1 (ZA hlZ6.symm (ZA hlZ10.symm jjZ8))))
    · cases h
      exact ZL (ZA cZ2 (ZA hyZ3a (ZA hyZ3b cZ5))) (ZA S_impl_commonL1.eq_1 SX_impl_commonL1.eq_1)
  · cases h
    exact ZL cZ2 (ZA S_impl_commonL1.eq_1 SX_impl_commonL1.eq_1)
theorem w_impl_common (aZ0 : List Int) (bZ0 : List Int) {r : List Int} (h : M_impl_common aZ0 bZ0 = some r) : Ok Tryz.prog 113 [.lst .o 1 (aZ0.map AV.i), .lst .o 1 (bZ0.map AV.i)] ((fun r => .lst .u 1 (r.map AV.i)) r) := by
  refine ok_of_body hmix m113 rfl ?_
  unfold M_impl_common at h
  simp only [ZC, A113, V113, body_eq]
  obtain ⟨oZ13, hoZ13, h⟩ := bind_s h
  try refine ZF trivial ?_
  refine join_rule0 (blk_rule0 (loop_rule (w_impl_commonL1 aZ0 bZ0) hoZ13 ?_)) ?_
  · exact ZK (ZA S_impl_commonL1.eq_1 SX_impl_commonL1.eq_1)
  · simp only [ZC, SX_impl_commonL1, A113R2]
    obtain ⟨rZ14, hrZ14, h⟩ := bind_s h
    refine ZF trivial ?_
    refine ZW trivial (w_slices_Sort_Lint_intM1 _ hrZ14) (h2 := by first | exact nm_ok [1000000000] rfl (by decide +kernel) | exact nm_ok2 [1000000000] [] rfl (by decide +kernel) ZQ | exact ZQ) (hk := ?_)
    refine ZG ?_
    obtain ⟨rZ15, hrZ15, h⟩ := bind_s h
    refine ZF trivial ?_
    refine ZW trivial (w_slices_Compact_Lint_intM1 _ _ _ hrZ15) (h2 := by first | exact nm_ok [1000000000] rfl (by decide +kernel) | exact nm_ok2 [1000000000] [] rfl (by decide +kernel) ZQ | exact ZQ) (hk := ?_)
    refine ZG ?_
    obtain ⟨lZ16, hlZ16, h⟩ := bnd_s h
    have eZ17 : sub (rZ15.2.2.map AV.i) rZ15.1 rZ15.2.1 = lZ16.map AV.i := by rw [sub_mapT, hlZ16]
    cases h
    exact ZL eZ17 V113.eq_1
theorem w_impl_apart (nZ0 : TNetwork) (aZ0 : List Int) (bZ0 : List Int) {r : Bool} (h : M_impl_apart nZ0 aZ0 bZ0 = some r) : Ok Tryz.prog 133 [.agg [.lst .o 1 (nZ0.Nodes.map AV.z), .lst .o 4 (nZ0.Fibers.map (e_TFiber .o))], .lst .o 1 (aZ0.map AV.i), .lst .o 1 (bZ0.map AV.i)] ((fun r => .b r) r) := by
  refine ok_of_body hmix m133 rfl ?_
  unfold M_impl_apart at h
  simp only [ZC, A133, V133, body_eq]
  obtain ⟨rZ1, hrZ1, h⟩ := bind_s h
  refine ZF trivial ?_
  refine ZU trivial (w_impl_risksOf _ _ hrZ1) ?_
  refine ZG ?_
  obtain ⟨rZ2, hrZ2, h⟩ := bind_s h
  refine ZF trivial ?_
  refine ZU trivial (w_impl_risksOf _ _ hrZ2) ?_
  refine ZG ?_
  obtain ⟨rZ3, hrZ3, h⟩ := bind_s h
  refine ZF trivial ?_
  refine ZU trivial (w_impl_common _ _ hrZ3) ?_
  refine ZG ?_
  cases h
  exact ZL trivial V133.eq_1
theorem w_impl_isService (nZ0 : TNetwork) (sZ0 : TService) {r : Bool} (h : M_impl_isService nZ0 sZ0 = some r) : Ok Tryz.prog 95 [.agg [.lst .o 1 (nZ0.Nodes.map AV.z), .lst .o 4 (nZ0.Fibers.map (e_TFiber .o))], .agg [.i sZ0.Id, .i sZ0.Class, .i sZ0.Work.Start, .lst .o 1 (sZ0.Work.Fibers.map AV.i), .i sZ0.WorkBlock.First, .i sZ0.WorkBlock.Count, .i sZ0.Spare.Start, .lst .o 1 (sZ0.Spare.Fibers.map AV.i), .i sZ0.SpareBlock.First, .i sZ0.SpareBlock.Count]] ((fun r => .b r) r) := by
  refine ok_of_body hmix m95 rfl ?_
  unfold M_impl_isService at h
  simp only [ZC, A95, V95, body_eq]
  obtain ⟨rZ1, hrZ1, h⟩ := bind_s h
  refine ZF trivial ?_
  refine ZU trivial (w_impl_visited _ _ hrZ1) ?_
  refine ZG ?_
  obtain ⟨oZ8, hoZ8, h⟩ := bind_s h
  try refine ZF trivial ?_
  refine join_rule0 (sh := (fun v => ⟨[(2, .pt 2 0 0), (3, .pt 3 0 0), (5, .sl 5 0 rZ1.1.length), (35, .b v)], [(2, .var (.agg [.lst .o 1 (nZ0.Nodes.map AV.z), .lst .o 4 (nZ0.Fibers.map (e_TFiber .o))])), (3, .var (.agg [.i sZ0.Id, .i sZ0.Class, .i sZ0.Work.Start, .lst .o 1 (sZ0.Work.Fibers.map AV.i), .i sZ0.WorkBlock.First, .i sZ0.WorkBlock.Count, .i sZ0.Spare.Start, .lst .o 1 (sZ0.Spare.Fibers.map AV.i), .i sZ0.SpareBlock.First, .i sZ0.SpareBlock.Count])), (5, .arr 1 (rZ1.1.map AV.i))]⟩)) (s := oZ8) ?_ ?_
  · replace h := hoZ8
    obtain ⟨rZ2, hrZ2, h⟩ := bind_s h
    refine ZF trivial ?_
    refine ZS trivial (w_impl_within _ _ _ hrZ2) ?_
    refine ZG ?_
    obtain ⟨cZ3, h⟩ | ⟨cZ3, h⟩ := cond_s h
    · cases h
      exact ZL cZ3 trivial
    · obtain ⟨rZ4, hrZ4, h⟩ := bind_s h
      refine ZF cZ3 ?_
      refine ZS cZ3 (w_impl_within _ _ _ hrZ4) ?_
      refine ZG ?_
      obtain ⟨cZ5, h⟩ | ⟨cZ5, h⟩ := cond_s h
      · cases h
        exact ZL (ZA cZ3 cZ5) trivial
      · obtain ⟨cZ6, h⟩ | ⟨cZ6, h⟩ := cond_s h
        · cases h
          exact ZL (ZA cZ3 (ZA cZ5 cZ6)) trivial
        · obtain ⟨rZ7, hrZ7, h⟩ := bind_s h
          refine ZF (ZA cZ3 (ZA cZ5 cZ6)) ?_
          refine ZS (ZA cZ3 (ZA cZ5 cZ6)) (w_impl_IsValidBlock _ hrZ7) ?_
          refine ZG ?_
          cases h
          exact ZL (ZA cZ3 (ZA cZ5 cZ6)) trivial
  · simp only [ZC, A95R1]
    obtain ⟨cZ9, h⟩ | ⟨cZ9, h⟩ := cond_s h
    · cases h
      exact ZL cZ9 V95.eq_1
    · obtain ⟨cZ10, h⟩ | ⟨cZ10, h⟩ := cond_s h
      · obtain ⟨oZ13, hoZ13, h⟩ := bind_s h
        try refine ZF (ZA cZ9 cZ10) ?_
        refine join_rule0 (sh := (fun v => ⟨[(4, .b v)], []⟩)) (s := oZ13) ?_ ?_
        · replace h := hoZ13
          obtain ⟨cZ11, h⟩ | ⟨cZ11, h⟩ := cond_s h
          · obtain ⟨cZ12, h⟩ | ⟨cZ12, h⟩ := cond_s h
            · cases h
              exact ZL (ZA cZ9 (ZA cZ10 (ZA cZ11 cZ12))) trivial
            · cases h
              exact ZL (ZA cZ9 (ZA cZ10 (ZA cZ11 cZ12))) trivial
          · cases h
            exact ZL (ZA cZ9 (ZA cZ10 cZ11)) trivial
        · simp only [ZC, A95R2]
          cases h
          exact ZL (ZA cZ9 cZ10) V95.eq_1
      · obtain ⟨rZ14, hrZ14, h⟩ := bind_s h
        refine ZF (ZA cZ9 cZ10) ?_
        refine ZU (ZA cZ9 cZ10) (w_impl_visited _ _ hrZ14) ?_
        refine ZG ?_
        obtain ⟨cZ15, h⟩ | ⟨cZ15, h⟩ := cond_s h
        · obtain ⟨rZ16, hrZ16, h⟩ := bind_s h
          refine ZF (ZA cZ9 (ZA cZ10 cZ15)) ?_
          refine ZS (ZA cZ9 (ZA cZ10 cZ15)) (w_impl_IsValidBlock _ hrZ16) ?_
          refine ZG ?_
          obtain ⟨cZ17, h⟩ | ⟨cZ17, h⟩ := cond_s h
          · obtain ⟨kZ18, hkZ18, h⟩ := bind_s h
            obtain ⟨hkZ18a, hkZ18b⟩ := grd_s hkZ18
            obtain ⟨yZ19, hyZ19, h⟩ := bind_s h
            obtain ⟨kZ20, hkZ20, h⟩ := bind_s h
            obtain ⟨hkZ20a, hkZ20b⟩ := grd_s hkZ20
            obtain ⟨yZ21, hyZ21, h⟩ := bind_s h
            obtain ⟨cZ22, h⟩ | ⟨cZ22, h⟩ := cond_s h
            · obtain ⟨kZ23, hkZ23, h⟩ := bind_s h
              obtain ⟨hkZ23a, hkZ23b⟩ := grd_s hkZ23
              obtain ⟨yZ24, hyZ24, h⟩ := bind_s h
              obtain ⟨kZ25, hkZ25, h⟩ := bind_s h
              obtain ⟨hkZ25a, hkZ25b⟩ := grd_s hkZ25
              obtain ⟨yZ26, hyZ26, h⟩ := bind_s h
              obtain ⟨cZ27, h⟩ | ⟨cZ27, h⟩ := cond_s h
              · obtain ⟨rZ28, hrZ28, h⟩ := bind_s h
                refine ZF (ZA cZ9 (ZA cZ10 (ZA cZ15 (ZA cZ17 (ZA hkZ18a (ZA hkZ18b (ZA hyZ19 (ZA hkZ20a (ZA hkZ20b (ZA hyZ21 (ZA cZ22 (ZA hkZ23a (ZA hkZ23b (ZA hyZ24 (ZA hkZ25a (ZA hkZ25b (ZA hyZ26 cZ27))))))))))))))))) ?_
                refine ZS (ZA cZ9 (ZA cZ10 (ZA cZ15 (ZA cZ17 (ZA hkZ18a (ZA hkZ18b (ZA hyZ19 (ZA hkZ20a (ZA hkZ20b (ZA hyZ21 (ZA cZ22 (ZA hkZ23a (ZA hkZ23b (ZA hyZ24 (ZA hkZ25a (ZA hkZ25b (ZA hyZ26 cZ27))))))))))))))))) (w_impl_apart _ _ _ hrZ28) ?_
                refine ZG ?_
                cases h
                exact ZL (ZA cZ9 (ZA cZ10 (ZA cZ15 (ZA cZ17 (ZA hkZ18a (ZA hkZ18b (ZA hyZ19 (ZA hkZ20a (ZA hkZ20b (ZA hyZ21 (ZA cZ22 (ZA hkZ23a (ZA hkZ23b (ZA hyZ24 (ZA hkZ25a (ZA hkZ25b (ZA hyZ26 cZ27))))))))))))))))) V95.eq_1
              · cases h
                exact ZL (ZA cZ9 (ZA cZ10 (ZA cZ15 (ZA cZ17 (ZA hkZ18a (ZA hkZ18b (ZA hyZ19 (ZA hkZ20a (ZA hkZ20b (ZA hyZ21 (ZA cZ22 (ZA hkZ23a (ZA hkZ23b (ZA hyZ24 (ZA hkZ25a (ZA hkZ25b (ZA hyZ26 cZ27))))))))))))))))) V95.eq_1
            · cases h
              exact ZL (ZA cZ9 (ZA cZ10 (ZA cZ15 (ZA cZ17 (ZA hkZ18a (ZA hkZ18b (ZA hyZ19 (ZA hkZ20a (ZA hkZ20b (ZA hyZ21 cZ22)))))))))) V95.eq_1
          · cases h
            exact ZL (ZA cZ9 (ZA cZ10 (ZA cZ15 cZ17))) V95.eq_1
        · cases h
          exact ZL (ZA cZ9 (ZA cZ10 cZ15)) V95.eq_1
theorem w_impl_maskOf (bZ0 : TBlock) {r : Int} (h : M_impl_maskOf bZ0 = some r) : Ok Tryz.prog 81 [.agg [.i bZ0.First, .i bZ0.Count]] ((fun r => .i r) r) := by
  refine ok_of_body hmix m81 rfl ?_
  unfold M_impl_maskOf at h
  simp only [ZC, A81, V81, body_eq]
  obtain ⟨uZ1, huZ1, h⟩ := bind_s h
  have huZ1g := grd_s huZ1
  obtain ⟨uZ2, huZ2, h⟩ := bind_s h
  have huZ2g := grd_s huZ2
  cases h
  exact ZL (ZA huZ1g huZ2g) V81.eq_1
theorem w_impl_collide (aZ0 : TLight) (bZ0 : TLight) {r : Bool} (h : M_impl_collide aZ0 bZ0 = some r) : Ok Tryz.prog 137 [.agg [.i aZ0.Id, .i aZ0.Route.Start, .lst .o 1 (aZ0.Route.Fibers.map AV.i), .i aZ0.Block.First, .i aZ0.Block.Count], .agg [.i bZ0.Id, .i bZ0.Route.Start, .lst .o 1 (bZ0.Route.Fibers.map AV.i), .i bZ0.Block.First, .i bZ0.Block.Count]] ((fun r => .b r) r) := by
  refine ok_of_body hmix m137 rfl ?_
  unfold M_impl_collide at h
  simp only [ZC, A137, V137, body_eq]
  obtain ⟨rZ1, hrZ1, h⟩ := bind_s h
  refine ZF trivial ?_
  refine ZS trivial (w_impl_maskOf _ hrZ1) ?_
  refine ZG ?_
  obtain ⟨rZ2, hrZ2, h⟩ := bind_s h
  refine ZF trivial ?_
  refine ZS trivial (w_impl_maskOf _ hrZ2) ?_
  refine ZG ?_
  obtain ⟨cZ3, h⟩ | ⟨cZ3, h⟩ := cond_s h
  · obtain ⟨rZ4, hrZ4, h⟩ := bind_s h
    refine ZF cZ3 ?_
    refine ZU cZ3 (w_impl_common _ _ hrZ4) ?_
    refine ZG ?_
    cases h
    exact ZL cZ3 V137.eq_1
  · cases h
    exact ZL cZ3 V137.eq_1
theorem w_impl_overlap (aZ0 : TRoute) (xZ0 : TBlock) (bZ0 : TRoute) (yZ0 : TBlock) {r : Bool} (h : M_impl_overlap aZ0 xZ0 bZ0 yZ0 = some r) : Ok Tryz.prog 115 [.agg [.i aZ0.Start, .lst .o 1 (aZ0.Fibers.map AV.i)], .agg [.i xZ0.First, .i xZ0.Count], .agg [.i bZ0.Start, .lst .o 1 (bZ0.Fibers.map AV.i)], .agg [.i yZ0.First, .i yZ0.Count]] ((fun r => .b r) r) := by
  refine ok_of_body hmix m115 rfl ?_
  unfold M_impl_overlap at h
  simp only [ZC, A115, V115, body_eq]
  obtain ⟨rZ1, hrZ1, h⟩ := bind_s h
  refine ZF trivial ?_
  refine ZS trivial (w_impl_collide _ _ hrZ1) ?_
  refine ZG ?_
  cases h
  exact ZL trivial V115.eq_1
theorem w_impl_compatible (nZ0 : TNetwork) (aZ0 : TService) (bZ0 : TService) {r : Bool} (h : M_impl_compatible nZ0 aZ0 bZ0 = some r) : Ok Tryz.prog 98 [.agg [.lst .o 1 (nZ0.Nodes.map AV.z), .lst .o 4 (nZ0.Fibers.map (e_TFiber .o))], .agg [.i aZ0.Id, .i aZ0.Class, .i aZ0.Work.Start, .lst .o 1 (aZ0.Work.Fibers.map AV.i), .i aZ0.WorkBlock.First, .i aZ0.WorkBlock.Count, .i aZ0.Spare.Start, .lst .o 1 (aZ0.Spare.Fibers.map AV.i), .i aZ0.SpareBlock.First, .i aZ0.SpareBlock.Count], .agg [.i bZ0.Id, .i bZ0.Class, .i bZ0.Work.Start, .lst .o 1 (bZ0.Work.Fibers.map AV.i), .i bZ0.WorkBlock.First, .i bZ0.WorkBlock.Count, .i bZ0.Spare.Start, .lst .o 1 (bZ0.Spare.Fibers.map AV.i), .i bZ0.SpareBlock.First, .i bZ0.SpareBlock.Count]] ((fun r => .b r) r) := by
  refine ok_of_body hmix m98 rfl ?_
  unfold M_impl_compatible at h
  simp only [ZC, A98, V98, body_eq]
  obtain ⟨oZ6, hoZ6, h⟩ := bind_s h
  try refine ZF trivial ?_
  refine join_rule0 (sh := (fun v => ⟨[(3, .pt 3 0 0), (4, .pt 4 0 0), (5, .pt 5 0 0), (38, .b v)], [(3, .var (.agg [.lst .o 1 (nZ0.Nodes.map AV.z), .lst .o 4 (nZ0.Fibers.map (e_TFiber .o))])), (4, .var (.agg [.i aZ0.Id, .i aZ0.Class, .i aZ0.Work.Start, .lst .o 1 (aZ0.Work.Fibers.map AV.i), .i aZ0.WorkBlock.First, .i aZ0.WorkBlock.Count, .i aZ0.Spare.Start, .lst .o 1 (aZ0.Spare.Fibers.map AV.i), .i aZ0.SpareBlock.First, .i aZ0.SpareBlock.Count])), (5, .var (.agg [.i bZ0.Id, .i bZ0.Class, .i bZ0.Work.Start, .lst .o 1 (bZ0.Work.Fibers.map AV.i), .i bZ0.WorkBlock.First, .i bZ0.WorkBlock.Count, .i bZ0.Spare.Start, .lst .o 1 (bZ0.Spare.Fibers.map AV.i), .i bZ0.SpareBlock.First, .i bZ0.SpareBlock.Count]))]⟩)) (s := oZ6) ?_ ?_
  · replace h := hoZ6
    obtain ⟨rZ1, hrZ1, h⟩ := bind_s h
    refine ZF trivial ?_
    refine ZS trivial (w_impl_overlap _ _ _ _ hrZ1) ?_
    refine ZG ?_
    obtain ⟨cZ2, h⟩ | ⟨cZ2, h⟩ := cond_s h
    · cases h
      exact ZL cZ2 trivial
    · obtain ⟨rZ3, hrZ3, h⟩ := bind_s h
      refine ZF cZ2 ?_
      refine ZS cZ2 (w_impl_overlap _ _ _ _ hrZ3) ?_
      refine ZG ?_
      obtain ⟨cZ4, h⟩ | ⟨cZ4, h⟩ := cond_s h
      · cases h
        exact ZL (ZA cZ2 cZ4) trivial
      · obtain ⟨rZ5, hrZ5, h⟩ := bind_s h
        refine ZF (ZA cZ2 cZ4) ?_
        refine ZS (ZA cZ2 cZ4) (w_impl_overlap _ _ _ _ hrZ5) ?_
        refine ZG ?_
        cases h
        exact ZL (ZA cZ2 cZ4) trivial
  · simp only [ZC, A98R1]
    obtain ⟨cZ7, h⟩ | ⟨cZ7, h⟩ := cond_s h
    · cases h
      exact ZL cZ7 V98.eq_1
    · obtain ⟨oZ11, hoZ11, h⟩ := bind_s h
      try refine ZF cZ7 ?_
      refine join_rule0 (sh := (fun v => ⟨[(4, .pt 4 0 0), (5, .pt 5 0 0), (7, .b v)], [(4, .var (.agg [.i aZ0.Id, .i aZ0.Class, .i aZ0.Work.Start, .lst .o 1 (aZ0.Work.Fibers.map AV.i), .i aZ0.WorkBlock.First, .i aZ0.WorkBlock.Count, .i aZ0.Spare.Start, .lst .o 1 (aZ0.Spare.Fibers.map AV.i), .i aZ0.SpareBlock.First, .i aZ0.SpareBlock.Count])), (5, .var (.agg [.i bZ0.Id, .i bZ0.Class, .i bZ0.Work.Start, .lst .o 1 (bZ0.Work.Fibers.map AV.i), .i bZ0.WorkBlock.First, .i bZ0.WorkBlock.Count, .i bZ0.Spare.Start, .lst .o 1 (bZ0.Spare.Fibers.map AV.i), .i bZ0.SpareBlock.First, .i bZ0.SpareBlock.Count]))]⟩)) (s := oZ11) ?_ ?_
      · replace h := hoZ11
        obtain ⟨cZ8, h⟩ | ⟨cZ8, h⟩ := cond_s h
        · obtain ⟨cZ9, h⟩ | ⟨cZ9, h⟩ := cond_s h
          · obtain ⟨rZ10, hrZ10, h⟩ := bind_s h
            refine ZF (ZA cZ7 (ZA cZ8 cZ9)) ?_
            refine ZS (ZA cZ7 (ZA cZ8 cZ9)) (w_impl_apart _ _ _ hrZ10) ?_
            refine ZG ?_
            cases h
            exact ZL (ZA cZ7 (ZA cZ8 cZ9)) trivial
          · cases h
            exact ZL (ZA cZ7 (ZA cZ8 cZ9)) trivial
        · cases h
          exact ZL (ZA cZ7 cZ8) trivial
      · simp only [ZC, A98R2]
        obtain ⟨cZ12, h⟩ | ⟨cZ12, h⟩ := cond_s h
        · cases h
          exact ZL (ZA cZ7 cZ12) V98.eq_1
        · obtain ⟨rZ13, hrZ13, h⟩ := bind_s h
          refine ZF (ZA cZ7 cZ12) ?_
          refine ZS (ZA cZ7 cZ12) (w_impl_overlap _ _ _ _ hrZ13) ?_
          refine ZG ?_
          cases h
          exact ZL (ZA cZ7 cZ12) V98.eq_1
theorem w_impl_IsValidServices_c1 (ownZ0 : TService) (p1Z0 : TNetwork) (p2Z0 : TService) {r : Bool} (h : M_impl_IsValidServices_c1 ownZ0 p1Z0 p2Z0 = some r) : Ok Tryz.prog 97 [.agg [.i ownZ0.Id, .i ownZ0.Class, .i ownZ0.Work.Start, .lst .o 1 (ownZ0.Work.Fibers.map AV.i), .i ownZ0.WorkBlock.First, .i ownZ0.WorkBlock.Count, .i ownZ0.Spare.Start, .lst .o 1 (ownZ0.Spare.Fibers.map AV.i), .i ownZ0.SpareBlock.First, .i ownZ0.SpareBlock.Count], .bp (.agg [.lst .o 1 (p1Z0.Nodes.map AV.z), .lst .o 4 (p1Z0.Fibers.map (e_TFiber .o))]) 0, .bp (.agg [.i p2Z0.Id, .i p2Z0.Class, .i p2Z0.Work.Start, .lst .o 1 (p2Z0.Work.Fibers.map AV.i), .i p2Z0.WorkBlock.First, .i p2Z0.WorkBlock.Count, .i p2Z0.Spare.Start, .lst .o 1 (p2Z0.Spare.Fibers.map AV.i), .i p2Z0.SpareBlock.First, .i p2Z0.SpareBlock.Count]) 0] ((fun r => .b r) r) := by
  refine ok_of_body hmix m97 rfl ?_
  unfold M_impl_IsValidServices_c1 at h
  simp only [ZC, A97, V97, body_eq]
  obtain ⟨rZ1, hrZ1, h⟩ := bind_s h
  refine ZF trivial ?_
  refine ZS trivial (w_impl_compatible _ _ _ hrZ1) ?_
  refine ZG ?_
  cases h
  exact ZL trivial V97.eq_1
def S_slices_IndexFunc_ServiceL1 (sZ0 : List TService) (F_fZ0 : Nat) (C_fZ0 : List AV) (v : Int) : St := ⟨[(0, .lst .o 10 (sZ0.map (e_TService .o))), (1, .fn F_fZ0 C_fZ0), (7, .i (sZ0.length : Int)), (8, .i v)], []⟩
def SX_slices_IndexFunc_ServiceL1 (v : Unit) : St := ⟨[], []⟩
theorem w_slices_IndexFunc_ServiceL1 (sZ0 : List TService) (fZ0 : TService → Option Bool) (F_fZ0 : Nat) (C_fZ0 : List AV) (hC_fZ0 : Fixed C_fZ0) (hf_fZ0 : ∀ (x0 : TService) (r : Bool), fZ0 x0 = some r → Ok Tryz.prog F_fZ0 ((.agg [.i x0.Id, .i x0.Class, .i x0.Work.Start, .lst .o 1 (x0.Work.Fibers.map AV.i), .i x0.WorkBlock.First, .i x0.WorkBlock.Count, .i x0.Spare.Start, .lst .o 1 (x0.Spare.Fibers.map AV.i), .i x0.SpareBlock.First, .i x0.SpareBlock.Count]) :: C_fZ0) (.b r)) (sZ1 : Int) (o : Int ⊕ (Unit ⊕ Int)) (h : M_slices_IndexFunc_ServiceL1 sZ0 fZ0 sZ1 = some o) : AWP (OkS Tryz.prog) A69L1 (qL [0, 1, 7, 8] [] (S_slices_IndexFunc_ServiceL1 sZ0 F_fZ0 C_fZ0) (qS (qX 0 [] [] (SX_slices_IndexFunc_ServiceL1)) (qR V69 (fun r => .i r))) o) (S_slices_IndexFunc_ServiceL1 sZ0 F_fZ0 C_fZ0 sZ1) := by
  unfold M_slices_IndexFunc_ServiceL1 at h
  simp only [ZC, S_slices_IndexFunc_ServiceL1, A69L1]
  obtain ⟨cZ2, h⟩ | ⟨cZ2, h⟩ := cond_s h
  · obtain ⟨yZ3, hyZ3, h⟩ := bind_s h
    obtain ⟨hyZ3a, hyZ3b⟩ := geti_s hyZ3
    obtain ⟨rZ4, hrZ4, h⟩ := bind_s h
    refine ZF (ZA cZ2 (ZA hyZ3a hyZ3b)) ?_
    refine ZS (ZA cZ2 (ZA hyZ3a (ZA hyZ3b hC_fZ0.1))) (hf_fZ0 _ _ hrZ4) ?_
    refine ZG ?_
    obtain ⟨cZ5, h⟩ | ⟨cZ5, h⟩ := cond_s h
    · cases h
      exact ZL (ZA cZ2 (ZA hyZ3a (ZA hyZ3b cZ5))) (ZA V69.eq_1 (ZA hC_fZ0.2 ((fixed_ren hC_fZ0))))
    · cases h
      exact ZL (ZA cZ2 (ZA hyZ3a (ZA hyZ3b cZ5))) (ZA S_slices_IndexFunc_ServiceL1.eq_1 (ZA SX_slices_IndexFunc_ServiceL1.eq_1 (ZA hC_fZ0.2 ((fixed_ren hC_fZ0)))))
  · cases h
    exact ZL cZ2 (ZA S_slices_IndexFunc_ServiceL1.eq_1 (ZA SX_slices_IndexFunc_ServiceL1.eq_1 (ZA hC_fZ0.2 ((fixed_ren hC_fZ0)))))
theorem w_slices_IndexFunc_Service (sZ0 : List TService) (fZ0 : TService → Option Bool) {r : Int} (h : M_slices_IndexFunc_Service sZ0 fZ0 = some r) (F_fZ0 : Nat) (C_fZ0 : List AV) (hC_fZ0 : Fixed C_fZ0) (hf_fZ0 : ∀ (x0 : TService) (r : Bool), fZ0 x0 = some r → Ok Tryz.prog F_fZ0 ((.agg [.i x0.Id, .i x0.Class, .i x0.Work.Start, .lst .o 1 (x0.Work.Fibers.map AV.i), .i x0.WorkBlock.First, .i x0.WorkBlock.Count, .i x0.Spare.Start, .lst .o 1 (x0.Spare.Fibers.map AV.i), .i x0.SpareBlock.First, .i x0.SpareBlock.Count]) :: C_fZ0) (.b r)) : Ok Tryz.prog 69 [.lst .o 10 (sZ0.map (e_TService .o)), .fn F_fZ0 C_fZ0] ((fun r => .i r) r) := by
  refine ok_of_body hmix m69 rfl ?_
  unfold M_slices_IndexFunc_Service at h
  simp only [ZC, A69, V69, body_eq]
  obtain ⟨oZ6, hoZ6, h⟩ := bind_s h
  try refine ZF trivial ?_
  refine join_rule (o := oZ6) (blk_rule sideR (loop_rule (w_slices_IndexFunc_ServiceL1 sZ0 fZ0 F_fZ0 C_fZ0 hC_fZ0 hf_fZ0) hoZ6 ?_)) (fun vZ7 hv => ?_) (fun xZ8 hv e τ hne hq => ?_)
  · exact ZK (ZA S_slices_IndexFunc_ServiceL1.eq_1 (ZA SX_slices_IndexFunc_ServiceL1.eq_1 (ZA hC_fZ0.2 ((fixed_ren hC_fZ0)))))
  · subst hv
    simp only [] at h
    simp only [ZC, SX_slices_IndexFunc_ServiceL1, A69R2]
    cases h
    exact ZL trivial (ZA V69.eq_1 (ZA hC_fZ0.2 ((fixed_ren hC_fZ0))))
  · subst hv
    simp only [] at h
    obtain ⟨rfl, qZ9⟩ := hq
    cases h
    exact qZ9
theorem w_slices_ContainsFunc_Service (sZ0 : List TService) (fZ0 : TService → Option Bool) {r : Bool} (h : M_slices_ContainsFunc_Service sZ0 fZ0 = some r) (F_fZ0 : Nat) (C_fZ0 : List AV) (hC_fZ0 : Fixed C_fZ0) (hf_fZ0 : ∀ (x0 : TService) (r : Bool), fZ0 x0 = some r → Ok Tryz.prog F_fZ0 ((.agg [.i x0.Id, .i x0.Class, .i x0.Work.Start, .lst .o 1 (x0.Work.Fibers.map AV.i), .i x0.WorkBlock.First, .i x0.WorkBlock.Count, .i x0.Spare.Start, .lst .o 1 (x0.Spare.Fibers.map AV.i), .i x0.SpareBlock.First, .i x0.SpareBlock.Count]) :: C_fZ0) (.b r)) : Ok Tryz.prog 96 [.lst .o 10 (sZ0.map (e_TService .o)), .fn F_fZ0 C_fZ0] ((fun r => .b r) r) := by
  refine ok_of_body hmix m96 rfl ?_
  unfold M_slices_ContainsFunc_Service at h
  simp only [ZC, A96, V96, body_eq]
  obtain ⟨rZ1, hrZ1, h⟩ := bind_s h
  refine ZF trivial ?_
  refine ZS hC_fZ0.1 (w_slices_IndexFunc_Service _ _ hrZ1 F_fZ0 C_fZ0 hC_fZ0 hf_fZ0) ?_
  refine ZG ?_
  cases h
  exact ZL trivial (ZA V96.eq_1 (ZA hC_fZ0.2 ((fixed_ren hC_fZ0))))
def S_impl_IsValidServicesL1 (nZ0 : TNetwork) (listZ0 : List TService) (v : Int) : St := ⟨[(1, .lst .o 10 (listZ0.map (e_TService .o))), (2, .pt 2 0 0), (15, .lst .o 10 (listZ0.map (e_TService .o))), (16, .i (listZ0.length : Int)), (17, .i v)], [(2, .var (.agg [.lst .o 1 (nZ0.Nodes.map AV.z), .lst .o 4 (nZ0.Fibers.map (e_TFiber .o))]))]⟩
def SX_impl_IsValidServicesL1 (v : Unit) : St := ⟨[], []⟩
theorem w_impl_IsValidServicesL1 (nZ0 : TNetwork) (listZ0 : List TService) (sZ5 : Int) (o : Int ⊕ (Unit ⊕ Bool)) (h : M_impl_IsValidServicesL1 nZ0 listZ0 sZ5 = some o) : AWP (OkS Tryz.prog) A51L2 (qL [1, 2, 15, 16, 17] [2] (S_impl_IsValidServicesL1 nZ0 listZ0) (qS (qX 0 [] [] (SX_impl_IsValidServicesL1)) (qR V51 (fun r => .b r))) o) (S_impl_IsValidServicesL1 nZ0 listZ0 sZ5) := by
  unfold M_impl_IsValidServicesL1 at h
  simp only [ZC, S_impl_IsValidServicesL1, A51L2]
  obtain ⟨cZ6, h⟩ | ⟨cZ6, h⟩ := cond_s h
  · obtain ⟨yZ7, hyZ7, h⟩ := bind_s h
    obtain ⟨hyZ7a, hyZ7b⟩ := geti_s hyZ7
    obtain ⟨rZ8, hrZ8, h⟩ := bind_s h
    refine ZF (ZA cZ6 (ZA hyZ7a hyZ7b)) ?_
    refine ZS (ZA cZ6 (ZA hyZ7a hyZ7b)) (w_impl_isService _ _ hrZ8) ?_
    refine ZG ?_
    obtain ⟨cZ9, h⟩ | ⟨cZ9, h⟩ := cond_s h
    · cases h
      exact ZL (ZA cZ6 (ZA hyZ7a (ZA hyZ7b cZ9))) V51.eq_1
    · obtain ⟨cZ10, h⟩ | ⟨cZ10, h⟩ := cond_s h
      · obtain ⟨yZ11, hyZ11, h⟩ := bind_s h
        obtain ⟨hyZ11a, hyZ11b⟩ := geti_s hyZ11
        obtain ⟨cZ12, h⟩ | ⟨cZ12, h⟩ := cond_s h
        · cases h
          exact ZL (ZA cZ6 (ZA hyZ7a (ZA hyZ7b (ZA cZ9 (ZA cZ10 (ZA hyZ11a (ZA hyZ11b cZ12))))))) V51.eq_1
        · obtain ⟨lZ13, hlZ13, h⟩ := bind_s h
          obtain ⟨hlZ13a, hlZ13b, hlZ13c, hlZ13d, hlZ13e⟩ := slT_s (e_TService .o) hlZ13
          obtain ⟨rZ14, hrZ14, h⟩ := bind_s h
          refine ZF (ZA cZ6 (ZA hyZ7a (ZA hyZ7b (ZA cZ9 (ZA cZ10 (ZA hyZ11a (ZA hyZ11b (ZA cZ12 (ZA hlZ13a (ZA hlZ13b (ZA hlZ13c (ZA hlZ13d hlZ13e)))))))))))) ?_
          refine ZS (ZA cZ6 (ZA hyZ7a (ZA hyZ7b (ZA cZ9 (ZA cZ10 (ZA hyZ11a (ZA hyZ11b (ZA cZ12 (ZA hlZ13a (ZA hlZ13b (ZA hlZ13c (ZA hlZ13d hlZ13e)))))))))))) (w_slices_ContainsFunc_Service _ _ hrZ14 97 [.bp (.agg [.lst .o 1 (nZ0.Nodes.map AV.z), .lst .o 4 (nZ0.Fibers.map (e_TFiber .o))]) 0, .bp (.agg [.i yZ7.Id, .i yZ7.Class, .i yZ7.Work.Start, .lst .o 1 (yZ7.Work.Fibers.map AV.i), .i yZ7.WorkBlock.First, .i yZ7.WorkBlock.Count, .i yZ7.Spare.Start, .lst .o 1 (yZ7.Spare.Fibers.map AV.i), .i yZ7.SpareBlock.First, .i yZ7.SpareBlock.Count]) 0] ⟨fun ρ k => by simp only [VS1, VS2, VS3, VS4, VS5, VS6, VT1, VT2, finM_ret, finM_nrm, decide_true, decide_false, List.nodup_nil, List.nodup_cons, oks_p, oks_m, oks_h, ne_eq, not_false_eq_true, Int.reduceEq, Int.reduceNe, true_and, false_and, Nat.reduceSub, Nat.reduceMul, ↓reduceIte, reduceCtorEq, Nat.reduceEqDiff, Nat.reduceAdd, Nat.reduceLeDiff, Int.reduceLE], by simp [mentsL, AV.ments]⟩ (fun _ _ h => w_impl_IsValidServices_c1 _ _ _ h)) ?_
          refine ZG ?_
          obtain ⟨cZ15, h⟩ | ⟨cZ15, h⟩ := cond_s h
          · cases h
            exact ZL (ZA cZ6 (ZA hyZ7a (ZA hyZ7b (ZA cZ9 (ZA cZ10 (ZA hyZ11a (ZA hyZ11b (ZA cZ12 (ZA hlZ13a (ZA hlZ13b (ZA hlZ13c (ZA hlZ13d (ZA hlZ13e cZ15))))))))))))) V51.eq_1
          · cases h
            exact ZL (ZA cZ6 (ZA hyZ7a (ZA hyZ7b (ZA cZ9 (ZA cZ10 (ZA hyZ11a (ZA hyZ11b (ZA cZ12 (ZA hlZ13a (ZA hlZ13b (ZA hlZ13c (ZA hlZ13d (ZA hlZ13e cZ15))))))))))))) (ZA S_impl_IsValidServicesL1.eq_1 SX_impl_IsValidServicesL1.eq_1)
      · obtain ⟨lZ16, hlZ16, h⟩ := bind_s h
        obtain ⟨hlZ16a, hlZ16b, hlZ16c, hlZ16d, hlZ16e⟩ := slT_s (e_TService .o) hlZ16
        obtain ⟨rZ17, hrZ17, h⟩ := bind_s h
        refine ZF (ZA cZ6 (ZA hyZ7a (ZA hyZ7b (ZA cZ9 (ZA cZ10 (ZA hlZ16a (ZA hlZ16b (ZA hlZ16c (ZA hlZ16d hlZ16e))))))))) ?_
        refine ZS (ZA cZ6 (ZA hyZ7a (ZA hyZ7b (ZA cZ9 (ZA cZ10 (ZA hlZ16a (ZA hlZ16b (ZA hlZ16c (ZA hlZ16d hlZ16e))))))))) (w_slices_ContainsFunc_Service _ _ hrZ17 97 [.bp (.agg [.lst .o 1 (nZ0.Nodes.map AV.z), .lst .o 4 (nZ0.Fibers.map (e_TFiber .o))]) 0, .bp (.agg [.i yZ7.Id, .i yZ7.Class, .i yZ7.Work.Start, .lst .o 1 (yZ7.Work.Fibers.map AV.i), .i yZ7.WorkBlock.First, .i yZ7.WorkBlock.Count, .i yZ7.Spare.Start, .lst .o 1 (yZ7.Spare.Fibers.map AV.i), .i yZ7.SpareBlock.First, .i yZ7.SpareBlock.Count]) 0] ⟨fun ρ k => by simp only [VS1, VS2, VS3, VS4, VS5, VS6, VT1, VT2, finM_ret, finM_nrm, decide_true, decide_false, List.nodup_nil, List.nodup_cons, oks_p, oks_m, oks_h, ne_eq, not_false_eq_true, Int.reduceEq, Int.reduceNe, true_and, false_and, Nat.reduceSub, Nat.reduceMul, ↓reduceIte, reduceCtorEq, Nat.reduceEqDiff, Nat.reduceAdd, Nat.reduceLeDiff, Int.reduceLE], by simp [mentsL, AV.ments]⟩ (fun _ _ h => w_impl_IsValidServices_c1 _ _ _ h)) ?_
        refine ZG ?_
        obtain ⟨cZ18, h⟩ | ⟨cZ18, h⟩ := cond_s h
        · cases h
          exact ZL (ZA cZ6 (ZA hyZ7a (ZA hyZ7b (ZA cZ9 (ZA cZ10 (ZA hlZ16a (ZA hlZ16b (ZA hlZ16c (ZA hlZ16d (ZA hlZ16e cZ18)))))))))) V51.eq_1
        · cases h
          exact ZL (ZA cZ6 (ZA hyZ7a (ZA hyZ7b (ZA cZ9 (ZA cZ10 (ZA hlZ16a (ZA hlZ16b (ZA hlZ16c (ZA hlZ16d (ZA hlZ16e cZ18)))))))))) (ZA S_impl_IsValidServicesL1.eq_1 SX_impl_IsValidServicesL1.eq_1)
  · cases h
    exact ZL cZ6 (ZA S_impl_IsValidServicesL1.eq_1 SX_impl_IsValidServicesL1.eq_1)
theorem w_impl_IsValidServices (nZ0 : TNetwork) (listZ0 : List TService) {r : Bool} (h : M_impl_IsValidServices nZ0 listZ0 = some r) : Ok Tryz.prog 51 [.agg [.lst .o 1 (nZ0.Nodes.map AV.z), .lst .o 4 (nZ0.Fibers.map (e_TFiber .o))], .lst .o 10 (listZ0.map (e_TService .o))] ((fun r => .b r) r) := by
  refine ok_of_body hmix m51 rfl ?_
  unfold M_impl_IsValidServices at h
  simp only [ZC, A51, V51, body_eq]
  obtain ⟨oZ3, hoZ3, h⟩ := bind_s h
  try refine ZF trivial ?_
  refine join_rule0 (sh := (fun v => ⟨[(1, .lst .o 10 (listZ0.map (e_TService .o))), (2, .pt 2 0 0), (14, .b v)], [(2, .var (.agg [.lst .o 1 (nZ0.Nodes.map AV.z), .lst .o 4 (nZ0.Fibers.map (e_TFiber .o))]))]⟩)) (s := oZ3) ?_ ?_
  · replace h := hoZ3
    obtain ⟨rZ1, hrZ1, h⟩ := bind_s h
    refine ZF trivial ?_
    refine ZS trivial (w_impl_IsValidNetwork _ hrZ1) ?_
    refine ZG ?_
    obtain ⟨cZ2, h⟩ | ⟨cZ2, h⟩ := cond_s h
    · cases h
      exact ZL cZ2 trivial
    · cases h
      exact ZL cZ2 trivial
  · simp only [ZC, A51R1]
    obtain ⟨cZ4, h⟩ | ⟨cZ4, h⟩ := cond_s h
    · cases h
      exact ZL cZ4 V51.eq_1
    · obtain ⟨oZ19, hoZ19, h⟩ := bind_s h
      try refine ZF cZ4 ?_
      refine join_rule (o := oZ19) (blk_rule sideR (loop_rule (w_impl_IsValidServicesL1 nZ0 listZ0) hoZ19 ?_)) (fun vZ20 hv => ?_) (fun xZ21 hv e τ hne hq => ?_)
      · exact ZK (ZA S_impl_IsValidServicesL1.eq_1 SX_impl_IsValidServicesL1.eq_1)
      · subst hv
        simp only [] at h
        simp only [ZC, SX_impl_IsValidServicesL1, A51R3]
        cases h
        exact ZL cZ4 V51.eq_1
      · subst hv
        simp only [] at h
        obtain ⟨rfl, qZ22⟩ := hq
        cases h
        exact qZ22
def S_impl_serviceMasksL2 (listZ0 : List TService) (sZ7 : Int × List Int × List Int) (yZ9 : TService) (v : Int × List Int) : St := ⟨[(6, .sl 6 0 v.2.length), (7, .sl 7 0 sZ7.2.2.length), (9, .pt 9 0 0), (22, .lst .o 10 (listZ0.map (e_TService .o))), (23, .i (listZ0.length : Int)), (24, .i sZ7.1), (30, .lst .o 1 (yZ9.Work.Fibers.map AV.i)), (31, .i (yZ9.Work.Fibers.length : Int)), (32, .i v.1)], [(6, .arr 1 (v.2.map AV.i)), (7, .arr 1 (sZ7.2.2.map AV.i)), (9, .var (.agg [.i yZ9.Id, .i yZ9.Class, .i yZ9.Work.Start, .lst .o 1 (yZ9.Work.Fibers.map AV.i), .i yZ9.WorkBlock.First, .i yZ9.WorkBlock.Count, .i yZ9.Spare.Start, .lst .o 1 (yZ9.Spare.Fibers.map AV.i), .i yZ9.SpareBlock.First, .i yZ9.SpareBlock.Count]))]⟩
def SX_impl_serviceMasksL2 (listZ0 : List TService) (sZ7 : Int × List Int × List Int) (yZ9 : TService) (v : List Int) : St := ⟨[(6, .sl 6 0 v.length), (7, .sl 7 0 sZ7.2.2.length), (9, .pt 9 0 0), (22, .lst .o 10 (listZ0.map (e_TService .o))), (23, .i (listZ0.length : Int)), (24, .i sZ7.1)], [(6, .arr 1 (v.map AV.i)), (7, .arr 1 (sZ7.2.2.map AV.i)), (9, .var (.agg [.i yZ9.Id, .i yZ9.Class, .i yZ9.Work.Start, .lst .o 1 (yZ9.Work.Fibers.map AV.i), .i yZ9.WorkBlock.First, .i yZ9.WorkBlock.Count, .i yZ9.Spare.Start, .lst .o 1 (yZ9.Spare.Fibers.map AV.i), .i yZ9.SpareBlock.First, .i yZ9.SpareBlock.Count]))]⟩
theorem w_impl_serviceMasksL2 (listZ0 : List TService) (sZ7 : Int × List Int × List Int) (yZ9 : TService) (sZ10 : Int × List Int) (o : (Int × List Int) ⊕ (List Int)) (h : M_impl_serviceMasksL2 yZ9 sZ10 = some o) : AWP (OkS Tryz.prog) A52L1 (qL [6, 7, 9, 22, 23, 24, 30, 31, 32] [6, 7, 9] (S_impl_serviceMasksL2 listZ0 sZ7 yZ9) (qX 2 [6, 7, 9, 22, 23, 24] [6, 7, 9] (SX_impl_serviceMasksL2 listZ0 sZ7 yZ9)) o) (S_impl_serviceMasksL2 listZ0 sZ7 yZ9 sZ10) := by
  unfold M_impl_serviceMasksL2 at h
  simp only [ZC, S_impl_serviceMasksL2, A52L1]
  obtain ⟨cZ11, h⟩ | ⟨cZ11, h⟩ := cond_s h
  · obtain ⟨yZ12, hyZ12, h⟩ := bind_s h
    obtain ⟨hyZ12a, hyZ12b⟩ := geti_s hyZ12
    obtain ⟨kZ13, hkZ13, h⟩ := bind_s h
    obtain ⟨hkZ13a, hkZ13b⟩ := grd_s hkZ13
    obtain ⟨yZ14, hyZ14, h⟩ := bind_s h
    obtain ⟨rZ15, hrZ15, h⟩ := bind_s h
    refine ZF (ZA cZ11 (ZA hyZ12a (ZA hyZ12b (ZA hkZ13a (ZA hkZ13b hyZ14))))) ?_
    refine ZS (ZA cZ11 (ZA hyZ12a (ZA hyZ12b (ZA hkZ13a (ZA hkZ13b hyZ14))))) (w_impl_maskOf _ hrZ15) ?_
    refine ZG ?_
    obtain ⟨lZ16, hlZ16, h⟩ := bnd_s h
    have eZ17 : (sZ10.2.map AV.i).set (Int.toNat yZ12) (.i (bits .or .i64 yZ14 rZ15)) = lZ16.map AV.i := by rw [← hlZ16, List.map_set]
    cases h
    exact ZL (ZA cZ11 (ZA hyZ12a (ZA hyZ12b (ZA hkZ13a (ZA hkZ13b (ZA hyZ14 eZ17)))))) (ZA S_impl_serviceMasksL2.eq_1 (ZA SX_impl_serviceMasksL2.eq_1 hlZ16.symm))
  · cases h
    exact ZL cZ11 (ZA S_impl_serviceMasksL2.eq_1 SX_impl_serviceMasksL2.eq_1)
def S_impl_serviceMasksL3 (listZ0 : List TService) (sZ7 : Int × List Int × List Int) (yZ9 : TService) (oZ18 : List Int) (v : Int × List Int) : St := ⟨[(6, .sl 6 0 oZ18.length), (7, .sl 7 0 v.2.length), (9, .pt 9 0 0), (22, .lst .o 10 (listZ0.map (e_TService .o))), (23, .i (listZ0.length : Int)), (24, .i sZ7.1), (48, .lst .o 1 (yZ9.Spare.Fibers.map AV.i)), (49, .i (yZ9.Spare.Fibers.length : Int)), (50, .i v.1)], [(6, .arr 1 (oZ18.map AV.i)), (7, .arr 1 (v.2.map AV.i)), (9, .var (.agg [.i yZ9.Id, .i yZ9.Class, .i yZ9.Work.Start, .lst .o 1 (yZ9.Work.Fibers.map AV.i), .i yZ9.WorkBlock.First, .i yZ9.WorkBlock.Count, .i yZ9.Spare.Start, .lst .o 1 (yZ9.Spare.Fibers.map AV.i), .i yZ9.SpareBlock.First, .i yZ9.SpareBlock.Count]))]⟩
def SX_impl_serviceMasksL3 (listZ0 : List TService) (sZ7 : Int × List Int × List Int) (oZ18 : List Int) (v : List Int) : St := ⟨[(6, .sl 6 0 oZ18.length), (7, .sl 7 0 v.length), (22, .lst .o 10 (listZ0.map (e_TService .o))), (23, .i (listZ0.length : Int)), (24, .i sZ7.1)], [(6, .arr 1 (oZ18.map AV.i)), (7, .arr 1 (v.map AV.i))]⟩
theorem w_impl_serviceMasksL3 (listZ0 : List TService) (sZ7 : Int × List Int × List Int) (yZ9 : TService) (oZ18 : List Int) (sZ19 : Int × List Int) (o : (Int × List Int) ⊕ (List Int)) (h : M_impl_serviceMasksL3 yZ9 sZ19 = some o) : AWP (OkS Tryz.prog) A52L3 (qL [6, 7, 9, 22, 23, 24, 48, 49, 50] [6, 7, 9] (S_impl_serviceMasksL3 listZ0 sZ7 yZ9 oZ18) (qX 4 [6, 7, 22, 23, 24] [6, 7] (SX_impl_serviceMasksL3 listZ0 sZ7 oZ18)) o) (S_impl_serviceMasksL3 listZ0 sZ7 yZ9 oZ18 sZ19) := by
  unfold M_impl_serviceMasksL3 at h
  simp only [ZC, S_impl_serviceMasksL3, A52L3]
  obtain ⟨cZ20, h⟩ | ⟨cZ20, h⟩ := cond_s h
  · obtain ⟨yZ21, hyZ21, h⟩ := bind_s h
    obtain ⟨hyZ21a, hyZ21b⟩ := geti_s hyZ21
    obtain ⟨kZ22, hkZ22, h⟩ := bind_s h
    obtain ⟨hkZ22a, hkZ22b⟩ := grd_s hkZ22
    obtain ⟨yZ23, hyZ23, h⟩ := bind_s h
    obtain ⟨rZ24, hrZ24, h⟩ := bind_s h
    refine ZF (ZA cZ20 (ZA hyZ21a (ZA hyZ21b (ZA hkZ22a (ZA hkZ22b hyZ23))))) ?_
    refine ZS (ZA cZ20 (ZA hyZ21a (ZA hyZ21b (ZA hkZ22a (ZA hkZ22b hyZ23))))) (w_impl_maskOf _ hrZ24) ?_
    refine ZG ?_
    obtain ⟨lZ25, hlZ25, h⟩ := bnd_s h
    have eZ26 : (sZ19.2.map AV.i).set (Int.toNat yZ21) (.i (bits .or .i64 yZ23 rZ24)) = lZ25.map AV.i := by rw [← hlZ25, List.map_set]
    cases h
    exact ZL (ZA cZ20 (ZA hyZ21a (ZA hyZ21b (ZA hkZ22a (ZA hkZ22b (ZA hyZ23 eZ26)))))) (ZA S_impl_serviceMasksL3.eq_1 (ZA SX_impl_serviceMasksL3.eq_1 hlZ25.symm))
  · cases h
    exact ZL cZ20 (ZA S_impl_serviceMasksL3.eq_1 SX_impl_serviceMasksL3.eq_1)
def S_impl_serviceMasksL1 (listZ0 : List TService) (v : Int × List Int × List Int) : St := ⟨[(6, .sl 6 0 v.2.1.length), (7, .sl 7 0 v.2.2.length), (22, .lst .o 10 (listZ0.map (e_TService .o))), (23, .i (listZ0.length : Int)), (24, .i v.1)], [(6, .arr 1 (v.2.1.map AV.i)), (7, .arr 1 (v.2.2.map AV.i))]⟩
def SX_impl_serviceMasksL1 (v : List Int × List Int) : St := ⟨[(6, .sl 6 0 v.1.length), (7, .sl 7 0 v.2.length)], [(6, .arr 1 (v.1.map AV.i)), (7, .arr 1 (v.2.map AV.i))]⟩
theorem w_impl_serviceMasksL1 (listZ0 : List TService) (sZ7 : Int × List Int × List Int) (o : (Int × List Int × List Int) ⊕ (List Int × List Int)) (h : M_impl_serviceMasksL1 listZ0 sZ7 = some o) : AWP (OkS Tryz.prog) A52L5 (qL [6, 7, 22, 23, 24] [6, 7] (S_impl_serviceMasksL1 listZ0) (qX 0 [6, 7] [6, 7] (SX_impl_serviceMasksL1)) o) (S_impl_serviceMasksL1 listZ0 sZ7) := by
  unfold M_impl_serviceMasksL1 at h
  simp only [ZC, S_impl_serviceMasksL1, A52L5]
  obtain ⟨cZ8, h⟩ | ⟨cZ8, h⟩ := cond_s h
  · obtain ⟨oZ29, hoZ29, h⟩ := bind_s h
    try refine ZF cZ8 ?_
    refine join_rule0 (sh := (fun v => ⟨[(6, .sl 6 0 v.1.length), (7, .sl 7 0 v.2.length), (22, .lst .o 10 (listZ0.map (e_TService .o))), (23, .i (listZ0.length : Int)), (24, .i sZ7.1)], [(6, .arr 1 (v.1.map AV.i)), (7, .arr 1 (v.2.map AV.i))]⟩)) (s := oZ29) ?_ ?_
    · replace h := hoZ29
      obtain ⟨yZ9, hyZ9, h⟩ := bind_s h
      obtain ⟨hyZ9a, hyZ9b⟩ := geti_s hyZ9
      obtain ⟨oZ18, hoZ18, h⟩ := bind_s h
      try refine ZF (ZA cZ8 (ZA hyZ9a hyZ9b)) ?_
      refine join_rule0 (blk_rule0 (loop_rule (w_impl_serviceMasksL2 listZ0 sZ7 yZ9) hoZ18 ?_)) ?_
      · exact ZK (ZA S_impl_serviceMasksL2.eq_1 SX_impl_serviceMasksL2.eq_1)
      · simp only [ZC, SX_impl_serviceMasksL2, A52R2]
        obtain ⟨oZ27, hoZ27, h⟩ := bind_s h
        try refine ZF (ZA cZ8 (ZA hyZ9a hyZ9b)) ?_
        first | refine tail_rule0 (blk_rule0 (loop_rule (w_impl_serviceMasksL3 listZ0 sZ7 yZ9 oZ18) hoZ27 ?_)) (fun τ qZ28 => ?_) | refine tail_blk0 (loop_rule (w_impl_serviceMasksL3 listZ0 sZ7 yZ9 oZ18) hoZ27 ?_) (fun τ qZ28 => ?_)
        · exact ZK (ZA S_impl_serviceMasksL3.eq_1 SX_impl_serviceMasksL3.eq_1)
        · cases h
          try refine ZF trivial ?_
          refine ⟨rfl, Shp.sub qZ28 (by decide) (by decide) ?_⟩
          exact ZK SX_impl_serviceMasksL3.eq_1
    · simp only [ZC, A52R4]
      cases h
      exact ZL cZ8 (ZA S_impl_serviceMasksL1.eq_1 SX_impl_serviceMasksL1.eq_1)
  · cases h
    exact ZL cZ8 (ZA S_impl_serviceMasksL1.eq_1 SX_impl_serviceMasksL1.eq_1)
theorem w_impl_serviceMasks (nZ0 : TNetwork) (listZ0 : List TService) {r : List Int × List Int} (h : M_impl_serviceMasks nZ0 listZ0 = some r) : Ok Tryz.prog 52 [.agg [.lst .o 1 (nZ0.Nodes.map AV.z), .lst .o 4 (nZ0.Fibers.map (e_TFiber .o))], .lst .o 10 (listZ0.map (e_TService .o))] ((fun r => .tup [.lst .u 1 (r.1.map AV.i), .lst .u 1 (r.2.map AV.i)]) r) := by
  refine ok_of_body hmix m52 rfl ?_
  unfold M_impl_serviceMasks at h
  simp only [ZC, A52, V52, body_eq]
  obtain ⟨uZ1, huZ1, h⟩ := bind_s h
  obtain ⟨huZ11, huZ12, huZ13, huZ14⟩ := grd_s huZ1
  obtain ⟨lZ2, hlZ2, h⟩ := bnd_s h
  have eZ3 : List.replicate (Int.toNat (nZ0.Fibers.length : Int)) (.i 0 : AV) = lZ2.map AV.i := by rw [← hlZ2, List.map_replicate]
  obtain ⟨uZ4, huZ4, h⟩ := bind_s h
  obtain ⟨huZ41, huZ42, huZ43, huZ44⟩ := grd_s huZ4
  obtain ⟨lZ5, hlZ5, h⟩ := bnd_s h
  have eZ6 : List.replicate (Int.toNat (nZ0.Fibers.length : Int)) (.i 0 : AV) = lZ5.map AV.i := by rw [← hlZ5, List.map_replicate]
  obtain ⟨oZ30, hoZ30, h⟩ := bind_s h
  try refine ZF (ZA huZ11 (ZA huZ12 (ZA huZ13 (ZA huZ14 (ZA eZ3 (ZA huZ41 (ZA huZ42 (ZA huZ43 (ZA huZ44 eZ6))))))))) ?_
  refine join_rule0 (blk_rule0 (loop_rule (w_impl_serviceMasksL1 listZ0) hoZ30 ?_)) ?_
  · exact ZK (ZA S_impl_serviceMasksL1.eq_1 (ZA SX_impl_serviceMasksL1.eq_1 (ZA hlZ2.symm (ZA @Zr hlZ5.symm))))
  · simp only [ZC, SX_impl_serviceMasksL1, A52R6]
    cases h
    exact ZL (ZA huZ11 (ZA huZ12 (ZA huZ13 (ZA huZ14 (ZA eZ3 (ZA huZ41 (ZA huZ42 (ZA huZ43 (ZA huZ44 eZ6))))))))) V52.eq_1
theorem w_impl_ServiceMasks (nZ0 : TNetwork) (listZ0 : List TService) {r : List Int × List Int × Bool} (h : M_impl_ServiceMasks nZ0 listZ0 = some r) : Ok Tryz.prog 17 [.agg [.lst .o 1 (nZ0.Nodes.map AV.z), .lst .o 4 (nZ0.Fibers.map (e_TFiber .o))], .lst .o 10 (listZ0.map (e_TService .o))] ((fun r => .tup [.lst .u 1 (r.1.map AV.i), .lst .u 1 (r.2.1.map AV.i), .b r.2.2]) r) := by
  refine ok_of_body hmix m17 rfl ?_
  unfold M_impl_ServiceMasks at h
  simp only [ZC, A17, V17, body_eq]
  obtain ⟨rZ1, hrZ1, h⟩ := bind_s h
  refine ZF trivial ?_
  refine ZS trivial (w_impl_IsValidServices _ _ hrZ1) ?_
  refine ZG ?_
  obtain ⟨cZ2, h⟩ | ⟨cZ2, h⟩ := cond_s h
  · cases h
    exact ZL cZ2 V17.eq_1
  · obtain ⟨rZ3, hrZ3, h⟩ := bind_s h
    refine ZF cZ2 ?_
    refine ZU cZ2 (w_impl_serviceMasks _ _ hrZ3) ?_
    refine ZG ?_
    cases h
    exact ZL cZ2 V17.eq_1
def S_laws_eqIntSL1 (aZ0 : List Int) (bZ0 : List Int) (v : Int) : St := ⟨[(0, .lst .o 1 (aZ0.map AV.i)), (1, .lst .o 1 (bZ0.map AV.i)), (5, .i v)], []⟩
def SX_laws_eqIntSL1 (v : Unit) : St := ⟨[], []⟩
theorem w_laws_eqIntSL1 (aZ0 : List Int) (bZ0 : List Int) (sZ2 : Int) (o : Int ⊕ (Unit ⊕ Bool)) (h : M_laws_eqIntSL1 aZ0 bZ0 sZ2 = some o) : AWP (OkS Tryz.prog) A18L1 (qL [0, 1, 5] [] (S_laws_eqIntSL1 aZ0 bZ0) (qS (qX 0 [] [] (SX_laws_eqIntSL1)) (qR V18 (fun r => .b r))) o) (S_laws_eqIntSL1 aZ0 bZ0 sZ2) := by
  unfold M_laws_eqIntSL1 at h
  simp only [ZC, S_laws_eqIntSL1, A18L1]
  obtain ⟨cZ3, h⟩ | ⟨cZ3, h⟩ := cond_s h
  · obtain ⟨yZ4, hyZ4, h⟩ := bind_s h
    obtain ⟨hyZ4a, hyZ4b⟩ := geti_s hyZ4
    obtain ⟨yZ5, hyZ5, h⟩ := bind_s h
    obtain ⟨hyZ5a, hyZ5b⟩ := geti_s hyZ5
    obtain ⟨cZ6, h⟩ | ⟨cZ6, h⟩ := cond_s h
    · cases h
      exact ZL (ZA cZ3 (ZA hyZ4a (ZA hyZ4b (ZA hyZ5a (ZA hyZ5b cZ6))))) V18.eq_1
    · cases h
      exact ZL (ZA cZ3 (ZA hyZ4a (ZA hyZ4b (ZA hyZ5a (ZA hyZ5b cZ6))))) (ZA S_laws_eqIntSL1.eq_1 SX_laws_eqIntSL1.eq_1)
  · cases h
    exact ZL cZ3 (ZA S_laws_eqIntSL1.eq_1 SX_laws_eqIntSL1.eq_1)
theorem w_laws_eqIntS (aZ0 : List Int) (bZ0 : List Int) {r : Bool} (h : M_laws_eqIntS aZ0 bZ0 = some r) : Ok Tryz.prog 18 [.lst .o 1 (aZ0.map AV.i), .lst .o 1 (bZ0.map AV.i)] ((fun r => .b r) r) := by
  refine ok_of_body hmix m18 rfl ?_
  unfold M_laws_eqIntS at h
  simp only [ZC, A18, V18, body_eq]
  obtain ⟨cZ1, h⟩ | ⟨cZ1, h⟩ := cond_s h
  · cases h
    exact ZL cZ1 V18.eq_1
  · obtain ⟨oZ7, hoZ7, h⟩ := bind_s h
    try refine ZF cZ1 ?_
    refine join_rule (o := oZ7) (blk_rule sideR (loop_rule (w_laws_eqIntSL1 aZ0 bZ0) hoZ7 ?_)) (fun vZ8 hv => ?_) (fun xZ9 hv e τ hne hq => ?_)
    · exact ZK (ZA S_laws_eqIntSL1.eq_1 SX_laws_eqIntSL1.eq_1)
    · subst hv
      simp only [] at h
      simp only [ZC, SX_laws_eqIntSL1, A18R2]
      cases h
      exact ZL cZ1 V18.eq_1
    · subst hv
      simp only [] at h
      obtain ⟨rfl, qZ10⟩ := hq
      cases h
      exact qZ10
def S_laws_eqStringSL1 (aZ0 : List ByteArray) (bZ0 : List ByteArray) (v : Int) : St := ⟨[(0, .lst .o 1 (aZ0.map AV.z)), (1, .lst .o 1 (bZ0.map AV.z)), (5, .i v)], []⟩
def SX_laws_eqStringSL1 (v : Unit) : St := ⟨[], []⟩
theorem w_laws_eqStringSL1 (aZ0 : List ByteArray) (bZ0 : List ByteArray) (sZ2 : Int) (o : Int ⊕ (Unit ⊕ Bool)) (h : M_laws_eqStringSL1 aZ0 bZ0 sZ2 = some o) : AWP (OkS Tryz.prog) A53L1 (qL [0, 1, 5] [] (S_laws_eqStringSL1 aZ0 bZ0) (qS (qX 0 [] [] (SX_laws_eqStringSL1)) (qR V53 (fun r => .b r))) o) (S_laws_eqStringSL1 aZ0 bZ0 sZ2) := by
  unfold M_laws_eqStringSL1 at h
  simp only [ZC, S_laws_eqStringSL1, A53L1]
  obtain ⟨cZ3, h⟩ | ⟨cZ3, h⟩ := cond_s h
  · obtain ⟨yZ4, hyZ4, h⟩ := bind_s h
    obtain ⟨hyZ4a, hyZ4b⟩ := geti_s hyZ4
    obtain ⟨yZ5, hyZ5, h⟩ := bind_s h
    obtain ⟨hyZ5a, hyZ5b⟩ := geti_s hyZ5
    obtain ⟨cZ6, h⟩ | ⟨cZ6, h⟩ := cond_s h
    · cases h
      exact ZL (ZA cZ3 (ZA hyZ4a (ZA hyZ4b (ZA hyZ5a (ZA hyZ5b cZ6))))) V53.eq_1
    · cases h
      exact ZL (ZA cZ3 (ZA hyZ4a (ZA hyZ4b (ZA hyZ5a (ZA hyZ5b cZ6))))) (ZA S_laws_eqStringSL1.eq_1 SX_laws_eqStringSL1.eq_1)
  · cases h
    exact ZL cZ3 (ZA S_laws_eqStringSL1.eq_1 SX_laws_eqStringSL1.eq_1)
theorem w_laws_eqStringS (aZ0 : List ByteArray) (bZ0 : List ByteArray) {r : Bool} (h : M_laws_eqStringS aZ0 bZ0 = some r) : Ok Tryz.prog 53 [.lst .o 1 (aZ0.map AV.z), .lst .o 1 (bZ0.map AV.z)] ((fun r => .b r) r) := by
  refine ok_of_body hmix m53 rfl ?_
  unfold M_laws_eqStringS at h
  simp only [ZC, A53, V53, body_eq]
  obtain ⟨cZ1, h⟩ | ⟨cZ1, h⟩ := cond_s h
  · cases h
    exact ZL cZ1 V53.eq_1
  · obtain ⟨oZ7, hoZ7, h⟩ := bind_s h
    try refine ZF cZ1 ?_
    refine join_rule (o := oZ7) (blk_rule sideR (loop_rule (w_laws_eqStringSL1 aZ0 bZ0) hoZ7 ?_)) (fun vZ8 hv => ?_) (fun xZ9 hv e τ hne hq => ?_)
    · exact ZK (ZA S_laws_eqStringSL1.eq_1 SX_laws_eqStringSL1.eq_1)
    · subst hv
      simp only [] at h
      simp only [ZC, SX_laws_eqStringSL1, A53R2]
      cases h
      exact ZL cZ1 V53.eq_1
    · subst hv
      simp only [] at h
      obtain ⟨rfl, qZ10⟩ := hq
      cases h
      exact qZ10
theorem w_laws_eqFiber (aZ0 : TFiber) (bZ0 : TFiber) {r : Bool} (h : M_laws_eqFiber aZ0 bZ0 = some r) : Ok Tryz.prog 99 [.agg [.i aZ0.A, .i aZ0.B, .i aZ0.Length, .i aZ0.Risk], .agg [.i bZ0.A, .i bZ0.B, .i bZ0.Length, .i bZ0.Risk]] ((fun r => .b r) r) := by
  refine ok_of_body hmix m99 rfl ?_
  unfold M_laws_eqFiber at h
  simp only [ZC, A99, V99, body_eq]
  obtain ⟨cZ1, h⟩ | ⟨cZ1, h⟩ := cond_s h
  · cases h
    exact ZL cZ1 V99.eq_1
  · obtain ⟨cZ2, h⟩ | ⟨cZ2, h⟩ := cond_s h
    · cases h
      exact ZL (ZA cZ1 cZ2) V99.eq_1
    · obtain ⟨cZ3, h⟩ | ⟨cZ3, h⟩ := cond_s h
      · cases h
        exact ZL (ZA cZ1 (ZA cZ2 cZ3)) V99.eq_1
      · obtain ⟨cZ4, h⟩ | ⟨cZ4, h⟩ := cond_s h
        · cases h
          exact ZL (ZA cZ1 (ZA cZ2 (ZA cZ3 cZ4))) V99.eq_1
        · cases h
          exact ZL (ZA cZ1 (ZA cZ2 (ZA cZ3 cZ4))) V99.eq_1
def S_laws_eqFiberSL1 (aZ0 : List TFiber) (bZ0 : List TFiber) (v : Int) : St := ⟨[(0, .lst .o 4 (aZ0.map (e_TFiber .o))), (1, .lst .o 4 (bZ0.map (e_TFiber .o))), (5, .i v)], []⟩
def SX_laws_eqFiberSL1 (v : Unit) : St := ⟨[], []⟩
theorem w_laws_eqFiberSL1 (aZ0 : List TFiber) (bZ0 : List TFiber) (sZ2 : Int) (o : Int ⊕ (Unit ⊕ Bool)) (h : M_laws_eqFiberSL1 aZ0 bZ0 sZ2 = some o) : AWP (OkS Tryz.prog) A54L1 (qL [0, 1, 5] [] (S_laws_eqFiberSL1 aZ0 bZ0) (qS (qX 0 [] [] (SX_laws_eqFiberSL1)) (qR V54 (fun r => .b r))) o) (S_laws_eqFiberSL1 aZ0 bZ0 sZ2) := by
  unfold M_laws_eqFiberSL1 at h
  simp only [ZC, S_laws_eqFiberSL1, A54L1]
  obtain ⟨cZ3, h⟩ | ⟨cZ3, h⟩ := cond_s h
  · obtain ⟨yZ4, hyZ4, h⟩ := bind_s h
    obtain ⟨hyZ4a, hyZ4b⟩ := geti_s hyZ4
    obtain ⟨yZ5, hyZ5, h⟩ := bind_s h
    obtain ⟨hyZ5a, hyZ5b⟩ := geti_s hyZ5
    obtain ⟨rZ6, hrZ6, h⟩ := bind_s h
    refine ZF (ZA cZ3 (ZA hyZ4a (ZA hyZ4b (ZA hyZ5a hyZ5b)))) ?_
    refine ZS (ZA cZ3 (ZA hyZ4a (ZA hyZ4b (ZA hyZ5a hyZ5b)))) (w_laws_eqFiber _ _ hrZ6) ?_
    refine ZG ?_
    obtain ⟨cZ7, h⟩ | ⟨cZ7, h⟩ := cond_s h
    · cases h
      exact ZL (ZA cZ3 (ZA hyZ4a (ZA hyZ4b (ZA hyZ5a (ZA hyZ5b cZ7))))) V54.eq_1
    · cases h
      exact ZL (ZA cZ3 (ZA hyZ4a (ZA hyZ4b (ZA hyZ5a (ZA hyZ5b cZ7))))) (ZA S_laws_eqFiberSL1.eq_1 SX_laws_eqFiberSL1.eq_1)
  · cases h
    exact ZL cZ3 (ZA S_laws_eqFiberSL1.eq_1 SX_laws_eqFiberSL1.eq_1)
theorem w_laws_eqFiberS (aZ0 : List TFiber) (bZ0 : List TFiber) {r : Bool} (h : M_laws_eqFiberS aZ0 bZ0 = some r) : Ok Tryz.prog 54 [.lst .o 4 (aZ0.map (e_TFiber .o)), .lst .o 4 (bZ0.map (e_TFiber .o))] ((fun r => .b r) r) := by
  refine ok_of_body hmix m54 rfl ?_
  unfold M_laws_eqFiberS at h
  simp only [ZC, A54, V54, body_eq]
  obtain ⟨cZ1, h⟩ | ⟨cZ1, h⟩ := cond_s h
  · cases h
    exact ZL cZ1 V54.eq_1
  · obtain ⟨oZ8, hoZ8, h⟩ := bind_s h
    try refine ZF cZ1 ?_
    refine join_rule (o := oZ8) (blk_rule sideR (loop_rule (w_laws_eqFiberSL1 aZ0 bZ0) hoZ8 ?_)) (fun vZ9 hv => ?_) (fun xZ10 hv e τ hne hq => ?_)
    · exact ZK (ZA S_laws_eqFiberSL1.eq_1 SX_laws_eqFiberSL1.eq_1)
    · subst hv
      simp only [] at h
      simp only [ZC, SX_laws_eqFiberSL1, A54R2]
      cases h
      exact ZL cZ1 V54.eq_1
    · subst hv
      simp only [] at h
      obtain ⟨rfl, qZ11⟩ := hq
      cases h
      exact qZ11
theorem w_laws_eqNetwork (aZ0 : TNetwork) (bZ0 : TNetwork) {r : Bool} (h : M_laws_eqNetwork aZ0 bZ0 = some r) : Ok Tryz.prog 19 [.agg [.lst .o 1 (aZ0.Nodes.map AV.z), .lst .o 4 (aZ0.Fibers.map (e_TFiber .o))], .agg [.lst .o 1 (bZ0.Nodes.map AV.z), .lst .o 4 (bZ0.Fibers.map (e_TFiber .o))]] ((fun r => .b r) r) := by
  refine ok_of_body hmix m19 rfl ?_
  unfold M_laws_eqNetwork at h
  simp only [ZC, A19, V19, body_eq]
  obtain ⟨rZ1, hrZ1, h⟩ := bind_s h
  refine ZF trivial ?_
  refine ZS trivial (w_laws_eqStringS _ _ hrZ1) ?_
  refine ZG ?_
  obtain ⟨cZ2, h⟩ | ⟨cZ2, h⟩ := cond_s h
  · cases h
    exact ZL cZ2 V19.eq_1
  · obtain ⟨rZ3, hrZ3, h⟩ := bind_s h
    refine ZF cZ2 ?_
    refine ZS cZ2 (w_laws_eqFiberS _ _ hrZ3) ?_
    refine ZG ?_
    obtain ⟨cZ4, h⟩ | ⟨cZ4, h⟩ := cond_s h
    · cases h
      exact ZL (ZA cZ2 cZ4) V19.eq_1
    · cases h
      exact ZL (ZA cZ2 cZ4) V19.eq_1
theorem w_laws_eqRoute (aZ0 : TRoute) (bZ0 : TRoute) {r : Bool} (h : M_laws_eqRoute aZ0 bZ0 = some r) : Ok Tryz.prog 100 [.agg [.i aZ0.Start, .lst .o 1 (aZ0.Fibers.map AV.i)], .agg [.i bZ0.Start, .lst .o 1 (bZ0.Fibers.map AV.i)]] ((fun r => .b r) r) := by
  refine ok_of_body hmix m100 rfl ?_
  unfold M_laws_eqRoute at h
  simp only [ZC, A100, V100, body_eq]
  obtain ⟨cZ1, h⟩ | ⟨cZ1, h⟩ := cond_s h
  · cases h
    exact ZL cZ1 V100.eq_1
  · obtain ⟨rZ2, hrZ2, h⟩ := bind_s h
    refine ZF cZ1 ?_
    refine ZS cZ1 (w_laws_eqIntS _ _ hrZ2) ?_
    refine ZG ?_
    obtain ⟨cZ3, h⟩ | ⟨cZ3, h⟩ := cond_s h
    · cases h
      exact ZL (ZA cZ1 cZ3) V100.eq_1
    · cases h
      exact ZL (ZA cZ1 cZ3) V100.eq_1
theorem w_laws_eqBlock (aZ0 : TBlock) (bZ0 : TBlock) {r : Bool} (h : M_laws_eqBlock aZ0 bZ0 = some r) : Ok Tryz.prog 101 [.agg [.i aZ0.First, .i aZ0.Count], .agg [.i bZ0.First, .i bZ0.Count]] ((fun r => .b r) r) := by
  refine ok_of_body hmix m101 rfl ?_
  unfold M_laws_eqBlock at h
  simp only [ZC, A101, V101, body_eq]
  obtain ⟨cZ1, h⟩ | ⟨cZ1, h⟩ := cond_s h
  · cases h
    exact ZL cZ1 V101.eq_1
  · obtain ⟨cZ2, h⟩ | ⟨cZ2, h⟩ := cond_s h
    · cases h
      exact ZL (ZA cZ1 cZ2) V101.eq_1
    · cases h
      exact ZL (ZA cZ1 cZ2) V101.eq_1
theorem w_laws_eqService (aZ0 : TService) (bZ0 : TService) {r : Bool} (h : M_laws_eqService aZ0 bZ0 = some r) : Ok Tryz.prog 55 [.agg [.i aZ0.Id, .i aZ0.Class, .i aZ0.Work.Start, .lst .o 1 (aZ0.Work.Fibers.map AV.i), .i aZ0.WorkBlock.First, .i aZ0.WorkBlock.Count, .i aZ0.Spare.Start, .lst .o 1 (aZ0.Spare.Fibers.map AV.i), .i aZ0.SpareBlock.First, .i aZ0.SpareBlock.Count], .agg [.i bZ0.Id, .i bZ0.Class, .i bZ0.Work.Start, .lst .o 1 (bZ0.Work.Fibers.map AV.i), .i bZ0.WorkBlock.First, .i bZ0.WorkBlock.Count, .i bZ0.Spare.Start, .lst .o 1 (bZ0.Spare.Fibers.map AV.i), .i bZ0.SpareBlock.First, .i bZ0.SpareBlock.Count]] ((fun r => .b r) r) := by
  refine ok_of_body hmix m55 rfl ?_
  unfold M_laws_eqService at h
  simp only [ZC, A55, V55, body_eq]
  obtain ⟨cZ1, h⟩ | ⟨cZ1, h⟩ := cond_s h
  · cases h
    exact ZL cZ1 V55.eq_1
  · obtain ⟨cZ2, h⟩ | ⟨cZ2, h⟩ := cond_s h
    · cases h
      exact ZL (ZA cZ1 cZ2) V55.eq_1
    · obtain ⟨rZ3, hrZ3, h⟩ := bind_s h
      refine ZF (ZA cZ1 cZ2) ?_
      refine ZS (ZA cZ1 cZ2) (w_laws_eqRoute _ _ hrZ3) ?_
      refine ZG ?_
      obtain ⟨cZ4, h⟩ | ⟨cZ4, h⟩ := cond_s h
      · cases h
        exact ZL (ZA cZ1 (ZA cZ2 cZ4)) V55.eq_1
      · obtain ⟨rZ5, hrZ5, h⟩ := bind_s h
        refine ZF (ZA cZ1 (ZA cZ2 cZ4)) ?_
        refine ZS (ZA cZ1 (ZA cZ2 cZ4)) (w_laws_eqBlock _ _ hrZ5) ?_
        refine ZG ?_
        obtain ⟨cZ6, h⟩ | ⟨cZ6, h⟩ := cond_s h
        · cases h
          exact ZL (ZA cZ1 (ZA cZ2 (ZA cZ4 cZ6))) V55.eq_1
        · obtain ⟨rZ7, hrZ7, h⟩ := bind_s h
          refine ZF (ZA cZ1 (ZA cZ2 (ZA cZ4 cZ6))) ?_
          refine ZS (ZA cZ1 (ZA cZ2 (ZA cZ4 cZ6))) (w_laws_eqRoute _ _ hrZ7) ?_
          refine ZG ?_
          obtain ⟨cZ8, h⟩ | ⟨cZ8, h⟩ := cond_s h
          · cases h
            exact ZL (ZA cZ1 (ZA cZ2 (ZA cZ4 (ZA cZ6 cZ8)))) V55.eq_1
          · obtain ⟨rZ9, hrZ9, h⟩ := bind_s h
            refine ZF (ZA cZ1 (ZA cZ2 (ZA cZ4 (ZA cZ6 cZ8)))) ?_
            refine ZS (ZA cZ1 (ZA cZ2 (ZA cZ4 (ZA cZ6 cZ8)))) (w_laws_eqBlock _ _ hrZ9) ?_
            refine ZG ?_
            obtain ⟨cZ10, h⟩ | ⟨cZ10, h⟩ := cond_s h
            · cases h
              exact ZL (ZA cZ1 (ZA cZ2 (ZA cZ4 (ZA cZ6 (ZA cZ8 cZ10))))) V55.eq_1
            · cases h
              exact ZL (ZA cZ1 (ZA cZ2 (ZA cZ4 (ZA cZ6 (ZA cZ8 cZ10))))) V55.eq_1
def S_laws_eqServiceSL1 (aZ0 : List TService) (bZ0 : List TService) (v : Int) : St := ⟨[(0, .lst .o 10 (aZ0.map (e_TService .o))), (1, .lst .o 10 (bZ0.map (e_TService .o))), (5, .i v)], []⟩
def SX_laws_eqServiceSL1 (v : Unit) : St := ⟨[], []⟩
theorem w_laws_eqServiceSL1 (aZ0 : List TService) (bZ0 : List TService) (sZ2 : Int) (o : Int ⊕ (Unit ⊕ Bool)) (h : M_laws_eqServiceSL1 aZ0 bZ0 sZ2 = some o) : AWP (OkS Tryz.prog) A20L1 (qL [0, 1, 5] [] (S_laws_eqServiceSL1 aZ0 bZ0) (qS (qX 0 [] [] (SX_laws_eqServiceSL1)) (qR V20 (fun r => .b r))) o) (S_laws_eqServiceSL1 aZ0 bZ0 sZ2) := by
  unfold M_laws_eqServiceSL1 at h
  simp only [ZC, S_laws_eqServiceSL1, A20L1]
  obtain ⟨cZ3, h⟩ | ⟨cZ3, h⟩ := cond_s h
  · obtain ⟨yZ4, hyZ4, h⟩ := bind_s h
    obtain ⟨hyZ4a, hyZ4b⟩ := geti_s hyZ4
    obtain ⟨yZ5, hyZ5, h⟩ := bind_s h
    obtain ⟨hyZ5a, hyZ5b⟩ := geti_s hyZ5
    obtain ⟨rZ6, hrZ6, h⟩ := bind_s h
    refine ZF (ZA cZ3 (ZA hyZ4a (ZA hyZ4b (ZA hyZ5a hyZ5b)))) ?_
    refine ZS (ZA cZ3 (ZA hyZ4a (ZA hyZ4b (ZA hyZ5a hyZ5b)))) (w_laws_eqService _ _ hrZ6) ?_
    refine ZG ?_
    obtain ⟨cZ7, h⟩ | ⟨cZ7, h⟩ := cond_s h
    · cases h
      exact ZL (ZA cZ3 (ZA hyZ4a (ZA hyZ4b (ZA hyZ5a (ZA hyZ5b cZ7))))) V20.eq_1
    · cases h
      exact ZL (ZA cZ3 (ZA hyZ4a (ZA hyZ4b (ZA hyZ5a (ZA hyZ5b cZ7))))) (ZA S_laws_eqServiceSL1.eq_1 SX_laws_eqServiceSL1.eq_1)
  · cases h
    exact ZL cZ3 (ZA S_laws_eqServiceSL1.eq_1 SX_laws_eqServiceSL1.eq_1)
theorem w_laws_eqServiceS (aZ0 : List TService) (bZ0 : List TService) {r : Bool} (h : M_laws_eqServiceS aZ0 bZ0 = some r) : Ok Tryz.prog 20 [.lst .o 10 (aZ0.map (e_TService .o)), .lst .o 10 (bZ0.map (e_TService .o))] ((fun r => .b r) r) := by
  refine ok_of_body hmix m20 rfl ?_
  unfold M_laws_eqServiceS at h
  simp only [ZC, A20, V20, body_eq]
  obtain ⟨cZ1, h⟩ | ⟨cZ1, h⟩ := cond_s h
  · cases h
    exact ZL cZ1 V20.eq_1
  · obtain ⟨oZ8, hoZ8, h⟩ := bind_s h
    try refine ZF cZ1 ?_
    refine join_rule (o := oZ8) (blk_rule sideR (loop_rule (w_laws_eqServiceSL1 aZ0 bZ0) hoZ8 ?_)) (fun vZ9 hv => ?_) (fun xZ10 hv e τ hne hq => ?_)
    · exact ZK (ZA S_laws_eqServiceSL1.eq_1 SX_laws_eqServiceSL1.eq_1)
    · subst hv
      simp only [] at h
      simp only [ZC, SX_laws_eqServiceSL1, A20R2]
      cases h
      exact ZL cZ1 V20.eq_1
    · subst hv
      simp only [] at h
      obtain ⟨rfl, qZ11⟩ := hq
      cases h
      exact qZ11
def S_laws_markTextL1 (v : Int × ByteArray) : St := ⟨[(0, .i v.1), (3, .z v.2)], []⟩
def SX_laws_markTextL1 (v : ByteArray) : St := ⟨[(3, .z v)], []⟩
theorem w_laws_markTextL1 (sZ2 : Int × ByteArray) (o : (Int × ByteArray) ⊕ ByteArray) (h : M_laws_markTextL1 sZ2 = some o) : AWP (OkS Tryz.prog) A102L1 (qL [0, 3] [] (S_laws_markTextL1) (qX 0 [3] [] (SX_laws_markTextL1)) o) (S_laws_markTextL1 sZ2) := by
  unfold M_laws_markTextL1 at h
  simp only [ZC, S_laws_markTextL1, A102L1]
  obtain ⟨cZ3, h⟩ | ⟨cZ3, h⟩ := cond_s h
  · obtain ⟨uZ4, huZ4, h⟩ := bind_s h
    have huZ4g := grd_s huZ4
    obtain ⟨lZ5, hlZ5, h⟩ := bnd_s h
    have eZ6 : Row.arr 1 [(.sc (.int .u8 (IntKind.wrap .u8 (IntKind.wrap .i64 (48 + (Int.tmod sZ2.1 10))))) : AV)] = Row.arr 1 (lZ5.map AV.u8) := by rw [← hlZ5]; rfl
    have jjZ7 : lZ5.length = 1 := by rw [← hlZ5]; rfl
    have nZ8 : sub (lZ5.map AV.u8) 0 1 = lZ5.map AV.u8 := sub_n _ (by simp [← hlZ5])
    obtain ⟨uZ9, huZ9, h⟩ := bind_s h
    have huZ9g := grd_s huZ9
    obtain ⟨uZ10, huZ10, h⟩ := bind_s h
    have huZ10g := grd_s huZ10
    cases h
    exact ZL (ZA cZ3 (ZA huZ4g (ZA eZ6 (ZA jjZ7 (ZA nZ8 (ZA huZ9g huZ10g)))))) (ZA S_laws_markTextL1.eq_1 (ZA SX_laws_markTextL1.eq_1 (ZA hlZ5.symm jjZ7)))
  · cases h
    exact ZL cZ3 (ZA S_laws_markTextL1.eq_1 SX_laws_markTextL1.eq_1)
theorem w_laws_markText (kZ0 : Int) {r : ByteArray} (h : M_laws_markText kZ0 = some r) : Ok Tryz.prog 102 [.i kZ0] ((fun r => .z r) r) := by
  refine ok_of_body hmix m102 rfl ?_
  unfold M_laws_markText at h
  simp only [ZC, A102, V102, body_eq]
  obtain ⟨cZ1, h⟩ | ⟨cZ1, h⟩ := cond_s h
  · cases h
    exact ZL cZ1 V102.eq_1
  · obtain ⟨oZ11, hoZ11, h⟩ := bind_s h
    try refine ZF cZ1 ?_
    refine join_rule0 (blk_rule0 (loop_rule (w_laws_markTextL1) hoZ11 ?_)) ?_
    · exact ZK (ZA S_laws_markTextL1.eq_1 SX_laws_markTextL1.eq_1)
    · simp only [ZC, SX_laws_markTextL1, A102R2]
      obtain ⟨uZ12, huZ12, h⟩ := bind_s h
      have huZ12g := grd_s huZ12
      cases h
      exact ZL (ZA cZ1 huZ12g) V102.eq_1
def S_laws_markStringSM1L1 (v : Int × Int × List ByteArray) : St := ⟨[(0, .sl 1000000000 0 v.2.2.length), (1, .i v.1), (5, .i v.2.1)], [(1000000000, .arr 1 (v.2.2.map AV.z))]⟩
def SX_laws_markStringSM1L1 (v : Int × List ByteArray) : St := ⟨[(1, .i v.1)], [(1000000000, .arr 1 (v.2.map AV.z))]⟩
theorem w_laws_markStringSM1L1 (sZ1 : Int × Int × List ByteArray) (o : (Int × Int × List ByteArray) ⊕ (Int × List ByteArray)) (h : M_laws_markStringSM1L1 sZ1 = some o) : AWP (OkS Tryz.prog) A56M1L1 (qL [0, 1, 5] [1000000000] (S_laws_markStringSM1L1) (qX 0 [1] [1000000000] (SX_laws_markStringSM1L1)) o) (S_laws_markStringSM1L1 sZ1) := by
  unfold M_laws_markStringSM1L1 at h
  simp only [ZC, S_laws_markStringSM1L1, A56M1L1]
  obtain ⟨cZ2, h⟩ | ⟨cZ2, h⟩ := cond_s h
  · obtain ⟨rZ3, hrZ3, h⟩ := bind_s h
    refine ZF cZ2 ?_
    refine ZS cZ2 (w_laws_markText _ hrZ3) ?_
    refine ZG ?_
    obtain ⟨kZ4, hkZ4, h⟩ := bind_s h
    obtain ⟨hkZ4a, hkZ4b⟩ := grd_s hkZ4
    obtain ⟨yZ5, hyZ5, h⟩ := bind_s h
    obtain ⟨lZ6, hlZ6, h⟩ := bnd_s h
    have eZ7 : (sZ1.2.2.map AV.z).set (Int.toNat sZ1.2.1) (.z rZ3) = lZ6.map AV.z := by rw [← hlZ6, List.map_set]
    cases h
    exact ZL (ZA cZ2 (ZA hkZ4a (ZA hkZ4b (ZA hyZ5 eZ7)))) (ZA S_laws_markStringSM1L1.eq_1 (ZA SX_laws_markStringSM1L1.eq_1 hlZ6.symm))
  · cases h
    exact ZL cZ2 (ZA S_laws_markStringSM1L1.eq_1 SX_laws_markStringSM1L1.eq_1)
theorem w_laws_markStringSM1 (aaZ0 : Int) (abZ0 : List ByteArray) {r : Int × List ByteArray} (h : M_laws_markStringSM1 aaZ0 abZ0 = some r) : OkM Tryz.prog 56 [.sl 1000000000 0 abZ0.length, .i aaZ0] [(1000000000, .arr 1 (abZ0.map AV.z))] ((fun (r : Int × List ByteArray) => .i r.1) r) ((fun (r : Int × List ByteArray) => [(1000000000, .arr 1 (r.2.map AV.z))]) r) := by
  refine okM_of_body (lr := [1000000000]) hmix m56M1 rfl rfl ?_
  unfold M_laws_markStringSM1 at h
  simp only [ZC, A56M1, V56M1]
  obtain ⟨oZ8, hoZ8, h⟩ := bind_s h
  try refine ZF trivial ?_
  refine join_rule0 (blk_rule0 (loop_rule (w_laws_markStringSM1L1) hoZ8 ?_)) ?_
  · exact ZK (ZA S_laws_markStringSM1L1.eq_1 SX_laws_markStringSM1L1.eq_1)
  · simp only [ZC, SX_laws_markStringSM1L1, A56M1R2]
    cases h
    exact ZL trivial V56M1.eq_1
def S_laws_markFiberSM1L1 (v : Int × Int × List TFiber) : St := ⟨[(0, .sl 1000000000 0 v.2.2.length), (1, .i v.1), (5, .i v.2.1)], [(1000000000, .arr 4 (v.2.2.map (e_TFiber .u)))]⟩
def SX_laws_markFiberSM1L1 (v : Int × List TFiber) : St := ⟨[(1, .i v.1)], [(1000000000, .arr 4 (v.2.map (e_TFiber .u)))]⟩
theorem w_laws_markFiberSM1L1 (sZ1 : Int × Int × List TFiber) (o : (Int × Int × List TFiber) ⊕ (Int × List TFiber)) (h : M_laws_markFiberSM1L1 sZ1 = some o) : AWP (OkS Tryz.prog) A57M1L1 (qL [0, 1, 5] [1000000000] (S_laws_markFiberSM1L1) (qX 0 [1] [1000000000] (SX_laws_markFiberSM1L1)) o) (S_laws_markFiberSM1L1 sZ1) := by
  unfold M_laws_markFiberSM1L1 at h
  simp only [ZC, S_laws_markFiberSM1L1, A57M1L1]
  obtain ⟨cZ2, h⟩ | ⟨cZ2, h⟩ := cond_s h
  · obtain ⟨kZ3, hkZ3, h⟩ := bind_s h
    obtain ⟨hkZ3a, hkZ3b⟩ := grd_s hkZ3
    obtain ⟨yZ4, hyZ4, h⟩ := bind_s h
    obtain ⟨lZ5, hlZ5, h⟩ := bnd_s h
    have eZ6 : (sZ1.2.2.map (e_TFiber .u)).set (Int.toNat sZ1.2.1) (.agg [.i sZ1.1, .i yZ4.B, .i yZ4.Length, .i yZ4.Risk]) = lZ5.map (e_TFiber .u) := by rw [← hlZ5, List.map_set]; rfl
    obtain ⟨yZ7, hyZ7, h⟩ := bind_s h
    obtain ⟨lZ8, hlZ8, h⟩ := bnd_s h
    have eZ9 : (lZ5.map (e_TFiber .u)).set (Int.toNat sZ1.2.1) (.agg [.i yZ7.A, .i (IntKind.wrap .i64 (sZ1.1 + 1)), .i yZ7.Length, .i yZ7.Risk]) = lZ8.map (e_TFiber .u) := by rw [← hlZ8, List.map_set]; rfl
    obtain ⟨yZ10, hyZ10, h⟩ := bind_s h
    obtain ⟨lZ11, hlZ11, h⟩ := bnd_s h
    have eZ12 : (lZ8.map (e_TFiber .u)).set (Int.toNat sZ1.2.1) (.agg [.i yZ10.A, .i yZ10.B, .i (IntKind.wrap .i64 ((IntKind.wrap .i64 (sZ1.1 + 1)) + 1)), .i yZ10.Risk]) = lZ11.map (e_TFiber .u) := by rw [← hlZ11, List.map_set]; rfl
    obtain ⟨yZ13, hyZ13, h⟩ := bind_s h
    obtain ⟨lZ14, hlZ14, h⟩ := bnd_s h
    have eZ15 : (lZ11.map (e_TFiber .u)).set (Int.toNat sZ1.2.1) (.agg [.i yZ13.A, .i yZ13.B, .i yZ13.Length, .i (IntKind.wrap .i64 ((IntKind.wrap .i64 ((IntKind.wrap .i64 (sZ1.1 + 1)) + 1)) + 1))]) = lZ14.map (e_TFiber .u) := by rw [← hlZ14, List.map_set]; rfl
    cases h
    exact ZL (ZA cZ2 (ZA hkZ3a (ZA hkZ3b (ZA hyZ4 (ZA eZ6 (ZA hyZ7 (ZA eZ9 (ZA hyZ10 (ZA eZ12 (ZA hyZ13 eZ15)))))))))) (ZA S_laws_markFiberSM1L1.eq_1 (ZA SX_laws_markFiberSM1L1.eq_1 (ZA hlZ5.symm (ZA hlZ8.symm (ZA hlZ11.symm hlZ14.symm)))))
  · cases h
    exact ZL cZ2 (ZA S_laws_markFiberSM1L1.eq_1 SX_laws_markFiberSM1L1.eq_1)
theorem w_laws_markFiberSM1 (aaZ0 : Int) (abZ0 : List TFiber) {r : Int × List TFiber} (h : M_laws_markFiberSM1 aaZ0 abZ0 = some r) : OkM Tryz.prog 57 [.sl 1000000000 0 abZ0.length, .i aaZ0] [(1000000000, .arr 4 (abZ0.map (e_TFiber .u)))] ((fun (r : Int × List TFiber) => .i r.1) r) ((fun (r : Int × List TFiber) => [(1000000000, .arr 4 (r.2.map (e_TFiber .u)))]) r) := by
  refine okM_of_body (lr := [1000000000]) hmix m57M1 rfl rfl ?_
  unfold M_laws_markFiberSM1 at h
  simp only [ZC, A57M1, V57M1]
  obtain ⟨oZ16, hoZ16, h⟩ := bind_s h
  try refine ZF trivial ?_
  refine join_rule0 (blk_rule0 (loop_rule (w_laws_markFiberSM1L1) hoZ16 ?_)) ?_
  · exact ZK (ZA S_laws_markFiberSM1L1.eq_1 SX_laws_markFiberSM1L1.eq_1)
  · simp only [ZC, SX_laws_markFiberSM1L1, A57M1R2]
    cases h
    exact ZL trivial V57M1.eq_1
theorem w_laws_markNetworkM1 (aaZ0 : Int) (abZ0 : List ByteArray) (acZ0 : List TFiber) {r : Int × List ByteArray × List TFiber} (h : M_laws_markNetworkM1 aaZ0 abZ0 acZ0 = some r) : OkM Tryz.prog 21 [.agg [.sl 1000000000 0 abZ0.length, .sl 1000000001 0 acZ0.length], .i aaZ0] [(1000000000, .arr 1 (abZ0.map AV.z)), (1000000001, .arr 4 (acZ0.map (e_TFiber .u)))] ((fun (r : Int × List ByteArray × List TFiber) => .i r.1) r) ((fun (r : Int × List ByteArray × List TFiber) => [(1000000000, .arr 1 (r.2.1.map AV.z)), (1000000001, .arr 4 (r.2.2.map (e_TFiber .u)))]) r) := by
  refine okM_of_body (lr := [1000000000, 1000000001]) hmix m21M1 rfl rfl ?_
  unfold M_laws_markNetworkM1 at h
  simp only [ZC, A21M1, V21M1]
  obtain ⟨rZ1, hrZ1, h⟩ := bind_s h
  refine ZF trivial ?_
  refine ZW trivial (w_laws_markStringSM1 _ _ hrZ1) (h2 := by first | exact nm_ok [1000000000] rfl (by decide +kernel) | exact nm_ok2 [1000000000] [] rfl (by decide +kernel) ZQ | exact ZQ) (hk := ?_)
  refine ZG ?_
  obtain ⟨rZ2, hrZ2, h⟩ := bind_s h
  refine ZF trivial ?_
  refine ZW trivial (w_laws_markFiberSM1 _ _ hrZ2) (h2 := by first | exact nm_ok [1000000000] rfl (by decide +kernel) | exact nm_ok2 [1000000000] [] rfl (by decide +kernel) ZQ | exact ZQ) (hk := ?_)
  refine ZG ?_
  cases h
  exact ZL trivial V21M1.eq_1
def S_laws_markIntSM1L1 (v : Int × Int × List Int) : St := ⟨[(0, .sl 1000000000 0 v.2.2.length), (1, .i v.1), (5, .i v.2.1)], [(1000000000, .arr 1 (v.2.2.map AV.i))]⟩
def SX_laws_markIntSM1L1 (v : Int × List Int) : St := ⟨[(1, .i v.1)], [(1000000000, .arr 1 (v.2.map AV.i))]⟩
theorem w_laws_markIntSM1L1 (sZ1 : Int × Int × List Int) (o : (Int × Int × List Int) ⊕ (Int × List Int)) (h : M_laws_markIntSM1L1 sZ1 = some o) : AWP (OkS Tryz.prog) A23M1L1 (qL [0, 1, 5] [1000000000] (S_laws_markIntSM1L1) (qX 0 [1] [1000000000] (SX_laws_markIntSM1L1)) o) (S_laws_markIntSM1L1 sZ1) := by
  unfold M_laws_markIntSM1L1 at h
  simp only [ZC, S_laws_markIntSM1L1, A23M1L1]
  obtain ⟨cZ2, h⟩ | ⟨cZ2, h⟩ := cond_s h
  · obtain ⟨kZ3, hkZ3, h⟩ := bind_s h
    obtain ⟨hkZ3a, hkZ3b⟩ := grd_s hkZ3
    obtain ⟨yZ4, hyZ4, h⟩ := bind_s h
    obtain ⟨lZ5, hlZ5, h⟩ := bnd_s h
    have eZ6 : (sZ1.2.2.map AV.i).set (Int.toNat sZ1.2.1) (.i sZ1.1) = lZ5.map AV.i := by rw [← hlZ5, List.map_set]
    cases h
    exact ZL (ZA cZ2 (ZA hkZ3a (ZA hkZ3b (ZA hyZ4 eZ6)))) (ZA S_laws_markIntSM1L1.eq_1 (ZA SX_laws_markIntSM1L1.eq_1 hlZ5.symm))
  · cases h
    exact ZL cZ2 (ZA S_laws_markIntSM1L1.eq_1 SX_laws_markIntSM1L1.eq_1)
theorem w_laws_markIntSM1 (aaZ0 : Int) (abZ0 : List Int) {r : Int × List Int} (h : M_laws_markIntSM1 aaZ0 abZ0 = some r) : OkM Tryz.prog 23 [.sl 1000000000 0 abZ0.length, .i aaZ0] [(1000000000, .arr 1 (abZ0.map AV.i))] ((fun (r : Int × List Int) => .i r.1) r) ((fun (r : Int × List Int) => [(1000000000, .arr 1 (r.2.map AV.i))]) r) := by
  refine okM_of_body (lr := [1000000000]) hmix m23M1 rfl rfl ?_
  unfold M_laws_markIntSM1 at h
  simp only [ZC, A23M1, V23M1]
  obtain ⟨oZ7, hoZ7, h⟩ := bind_s h
  try refine ZF trivial ?_
  refine join_rule0 (blk_rule0 (loop_rule (w_laws_markIntSM1L1) hoZ7 ?_)) ?_
  · exact ZK (ZA S_laws_markIntSM1L1.eq_1 SX_laws_markIntSM1L1.eq_1)
  · simp only [ZC, SX_laws_markIntSM1L1, A23M1R2]
    cases h
    exact ZL trivial V23M1.eq_1
def S_laws_markServiceSM1L1 (v : Int × Int × List TService) : St := ⟨[(0, .sl 1000000000 0 v.2.2.length), (1, .i v.1), (5, .i v.2.1)], [(1000000000, .arr 10 (v.2.2.map (e_TService .u)))]⟩
def SX_laws_markServiceSM1L1 (v : Int × List TService) : St := ⟨[(1, .i v.1)], [(1000000000, .arr 10 (v.2.map (e_TService .u)))]⟩
theorem w_laws_markServiceSM1L1 (sZ1 : Int × Int × List TService) (o : (Int × Int × List TService) ⊕ (Int × List TService)) (h : M_laws_markServiceSM1L1 sZ1 = some o) : AWP (OkS Tryz.prog) A22M1L1 (qL [0, 1, 5] [1000000000] (S_laws_markServiceSM1L1) (qX 0 [1] [1000000000] (SX_laws_markServiceSM1L1)) o) (S_laws_markServiceSM1L1 sZ1) := by
  unfold M_laws_markServiceSM1L1 at h
  simp only [ZC, S_laws_markServiceSM1L1, A22M1L1]
  obtain ⟨cZ2, h⟩ | ⟨cZ2, h⟩ := cond_s h
  · obtain ⟨kZ3, hkZ3, h⟩ := bind_s h
    obtain ⟨hkZ3a, hkZ3b⟩ := grd_s hkZ3
    obtain ⟨yZ4, hyZ4, h⟩ := bind_s h
    obtain ⟨lZ5, hlZ5, h⟩ := bnd_s h
    have eZ6 : (sZ1.2.2.map (e_TService .u)).set (Int.toNat sZ1.2.1) (.agg [.i sZ1.1, .i yZ4.Class, .i yZ4.Work.Start, .lst .u 1 (yZ4.Work.Fibers.map AV.i), .i yZ4.WorkBlock.First, .i yZ4.WorkBlock.Count, .i yZ4.Spare.Start, .lst .u 1 (yZ4.Spare.Fibers.map AV.i), .i yZ4.SpareBlock.First, .i yZ4.SpareBlock.Count]) = lZ5.map (e_TService .u) := by rw [← hlZ5, List.map_set]; rfl
    obtain ⟨yZ7, hyZ7, h⟩ := bind_s h
    obtain ⟨lZ8, hlZ8, h⟩ := bnd_s h
    have eZ9 : (lZ5.map (e_TService .u)).set (Int.toNat sZ1.2.1) (.agg [.i yZ7.Id, .i (IntKind.wrap .i64 (sZ1.1 + 1)), .i yZ7.Work.Start, .lst .u 1 (yZ7.Work.Fibers.map AV.i), .i yZ7.WorkBlock.First, .i yZ7.WorkBlock.Count, .i yZ7.Spare.Start, .lst .u 1 (yZ7.Spare.Fibers.map AV.i), .i yZ7.SpareBlock.First, .i yZ7.SpareBlock.Count]) = lZ8.map (e_TService .u) := by rw [← hlZ8, List.map_set]; rfl
    obtain ⟨yZ10, hyZ10, h⟩ := bind_s h
    obtain ⟨lZ11, hlZ11, h⟩ := bnd_s h
    have eZ12 : (lZ8.map (e_TService .u)).set (Int.toNat sZ1.2.1) (.agg [.i yZ10.Id, .i yZ10.Class, .i (IntKind.wrap .i64 ((IntKind.wrap .i64 (sZ1.1 + 1)) + 1)), .lst .u 1 (yZ10.Work.Fibers.map AV.i), .i yZ10.WorkBlock.First, .i yZ10.WorkBlock.Count, .i yZ10.Spare.Start, .lst .u 1 (yZ10.Spare.Fibers.map AV.i), .i yZ10.SpareBlock.First, .i yZ10.SpareBlock.Count]) = lZ11.map (e_TService .u) := by rw [← hlZ11, List.map_set]; rfl
    obtain ⟨yZ13, hyZ13, h⟩ := bind_s h
    obtain ⟨rZ14, hrZ14, h⟩ := bind_s h
    obtain ⟨lZ15, hlZ15, h⟩ := bnd_s h
    have eZ16 : (lZ11.map (e_TService .u)).set (Int.toNat sZ1.2.1) (.agg [.i yZ13.Id, .i yZ13.Class, .i yZ13.Work.Start, .lst .u 1 (rZ14.2.map AV.i), .i yZ13.WorkBlock.First, .i yZ13.WorkBlock.Count, .i yZ13.Spare.Start, .lst .u 1 (yZ13.Spare.Fibers.map AV.i), .i yZ13.SpareBlock.First, .i yZ13.SpareBlock.Count]) = lZ15.map (e_TService .u) := by rw [← hlZ15, List.map_set]; rfl
    refine ZF (ZA cZ2 (ZA hkZ3a (ZA hkZ3b (ZA hyZ4 (ZA eZ6 (ZA hyZ7 (ZA eZ9 (ZA hyZ10 (ZA eZ12 hyZ13))))))))) ?_
    refine inn_s (v := .int .i64 rZ14.1) (ys' := rZ14.2.map AV.i) (z := .agg [.i yZ13.Id, .i yZ13.Class, .i yZ13.Work.Start, .lst .u 1 (rZ14.2.map AV.i), .i yZ13.WorkBlock.First, .i yZ13.WorkBlock.Count, .i yZ13.Spare.Start, .lst .u 1 (yZ13.Spare.Fibers.map AV.i), .i yZ13.SpareBlock.First, .i yZ13.SpareBlock.Count]) (by simp only [VS1, VS2, VS3, VS4, VS5, VS6, VT1, VT2, finM_ret, finM_nrm, decide_true, decide_false, List.nodup_nil, List.nodup_cons, oks_p, oks_m, oks_h, ne_eq, not_false_eq_true, Int.reduceEq, Int.reduceNe, true_and, false_and, Nat.reduceSub, Nat.reduceMul, ↓reduceIte, reduceCtorEq, Nat.reduceEqDiff, Nat.reduceAdd, Nat.reduceLeDiff, Int.reduceLE, cZ2, hkZ3a, hkZ3b, hyZ4, eZ6, hyZ7, eZ9, hyZ10, eZ12, hyZ13]; exact w_laws_markIntSM1 _ _ hrZ14) (by simp [AV.flat, VT1, VT2]) (by simp [fz_mk, fz_sc, fz_lsto, fz_agg, fz_tup, fz_fn, fz_sl, fz_pt, fz_top, fzL_nil, fzL_cons, ou_sc, ou_lstu, ou_lsto, ou_agg, ouL_nil, ouL_cons, rfz_var, rfz_arr, rfz_dead, fzL_mi, fzL_mb, fzL_mz, fzL_m8, fzL_m64, ouL_m8, ouL_m64, ouL_mi, ouL_mb, ouL_mz, VZ1]) (by simp [VS1, VS2, VS3, VS4, VS5, VS6, VT1, VT2]) (by simp [AV.flat, VT1, VT2]) rfl ?_
    refine ZG ?_
    obtain ⟨yZ17, hyZ17, h⟩ := bind_s h
    obtain ⟨lZ18, hlZ18, h⟩ := bnd_s h
    have eZ19 : (lZ15.map (e_TService .u)).set (Int.toNat sZ1.2.1) (.agg [.i yZ17.Id, .i yZ17.Class, .i yZ17.Work.Start, .lst .u 1 (yZ17.Work.Fibers.map AV.i), .i rZ14.1, .i yZ17.WorkBlock.Count, .i yZ17.Spare.Start, .lst .u 1 (yZ17.Spare.Fibers.map AV.i), .i yZ17.SpareBlock.First, .i yZ17.SpareBlock.Count]) = lZ18.map (e_TService .u) := by rw [← hlZ18, List.map_set]; rfl
    obtain ⟨yZ20, hyZ20, h⟩ := bind_s h
    obtain ⟨lZ21, hlZ21, h⟩ := bnd_s h
    have eZ22 : (lZ18.map (e_TService .u)).set (Int.toNat sZ1.2.1) (.agg [.i yZ20.Id, .i yZ20.Class, .i yZ20.Work.Start, .lst .u 1 (yZ20.Work.Fibers.map AV.i), .i yZ20.WorkBlock.First, .i (IntKind.wrap .i64 (rZ14.1 + 1)), .i yZ20.Spare.Start, .lst .u 1 (yZ20.Spare.Fibers.map AV.i), .i yZ20.SpareBlock.First, .i yZ20.SpareBlock.Count]) = lZ21.map (e_TService .u) := by rw [← hlZ21, List.map_set]; rfl
    obtain ⟨yZ23, hyZ23, h⟩ := bind_s h
    obtain ⟨lZ24, hlZ24, h⟩ := bnd_s h
    have eZ25 : (lZ21.map (e_TService .u)).set (Int.toNat sZ1.2.1) (.agg [.i yZ23.Id, .i yZ23.Class, .i yZ23.Work.Start, .lst .u 1 (yZ23.Work.Fibers.map AV.i), .i yZ23.WorkBlock.First, .i yZ23.WorkBlock.Count, .i (IntKind.wrap .i64 ((IntKind.wrap .i64 (rZ14.1 + 1)) + 1)), .lst .u 1 (yZ23.Spare.Fibers.map AV.i), .i yZ23.SpareBlock.First, .i yZ23.SpareBlock.Count]) = lZ24.map (e_TService .u) := by rw [← hlZ24, List.map_set]; rfl
    obtain ⟨yZ26, hyZ26, h⟩ := bind_s h
    obtain ⟨rZ27, hrZ27, h⟩ := bind_s h
    obtain ⟨lZ28, hlZ28, h⟩ := bnd_s h
    have eZ29 : (lZ24.map (e_TService .u)).set (Int.toNat sZ1.2.1) (.agg [.i yZ26.Id, .i yZ26.Class, .i yZ26.Work.Start, .lst .u 1 (yZ26.Work.Fibers.map AV.i), .i yZ26.WorkBlock.First, .i yZ26.WorkBlock.Count, .i yZ26.Spare.Start, .lst .u 1 (rZ27.2.map AV.i), .i yZ26.SpareBlock.First, .i yZ26.SpareBlock.Count]) = lZ28.map (e_TService .u) := by rw [← hlZ28, List.map_set]; rfl
    refine ZF (ZA cZ2 (ZA hkZ3a (ZA hkZ3b (ZA hyZ4 (ZA eZ6 (ZA hyZ7 (ZA eZ9 (ZA hyZ10 (ZA eZ12 (ZA hyZ13 (ZA eZ16 (ZA hyZ17 (ZA eZ19 (ZA hyZ20 (ZA eZ22 (ZA hyZ23 (ZA eZ25 hyZ26))))))))))))))))) ?_
    refine inn_s (v := .int .i64 rZ27.1) (ys' := rZ27.2.map AV.i) (z := .agg [.i yZ26.Id, .i yZ26.Class, .i yZ26.Work.Start, .lst .u 1 (yZ26.Work.Fibers.map AV.i), .i yZ26.WorkBlock.First, .i yZ26.WorkBlock.Count, .i yZ26.Spare.Start, .lst .u 1 (rZ27.2.map AV.i), .i yZ26.SpareBlock.First, .i yZ26.SpareBlock.Count]) (by simp only [VS1, VS2, VS3, VS4, VS5, VS6, VT1, VT2, finM_ret, finM_nrm, decide_true, decide_false, List.nodup_nil, List.nodup_cons, oks_p, oks_m, oks_h, ne_eq, not_false_eq_true, Int.reduceEq, Int.reduceNe, true_and, false_and, Nat.reduceSub, Nat.reduceMul, ↓reduceIte, reduceCtorEq, Nat.reduceEqDiff, Nat.reduceAdd, Nat.reduceLeDiff, Int.reduceLE, cZ2, hkZ3a, hkZ3b, hyZ4, eZ6, hyZ7, eZ9, hyZ10, eZ12, hyZ13, eZ16, hyZ17, eZ19, hyZ20, eZ22, hyZ23, eZ25, hyZ26]; exact w_laws_markIntSM1 _ _ hrZ27) (by simp [AV.flat, VT1, VT2]) (by simp [fz_mk, fz_sc, fz_lsto, fz_agg, fz_tup, fz_fn, fz_sl, fz_pt, fz_top, fzL_nil, fzL_cons, ou_sc, ou_lstu, ou_lsto, ou_agg, ouL_nil, ouL_cons, rfz_var, rfz_arr, rfz_dead, fzL_mi, fzL_mb, fzL_mz, fzL_m8, fzL_m64, ouL_m8, ouL_m64, ouL_mi, ouL_mb, ouL_mz, VZ1]) (by simp [VS1, VS2, VS3, VS4, VS5, VS6, VT1, VT2]) (by simp [AV.flat, VT1, VT2]) rfl ?_
    refine ZG ?_
    obtain ⟨yZ30, hyZ30, h⟩ := bind_s h
    obtain ⟨lZ31, hlZ31, h⟩ := bnd_s h
    have eZ32 : (lZ28.map (e_TService .u)).set (Int.toNat sZ1.2.1) (.agg [.i yZ30.Id, .i yZ30.Class, .i yZ30.Work.Start, .lst .u 1 (yZ30.Work.Fibers.map AV.i), .i yZ30.WorkBlock.First, .i yZ30.WorkBlock.Count, .i yZ30.Spare.Start, .lst .u 1 (yZ30.Spare.Fibers.map AV.i), .i rZ27.1, .i yZ30.SpareBlock.Count]) = lZ31.map (e_TService .u) := by rw [← hlZ31, List.map_set]; rfl
    obtain ⟨yZ33, hyZ33, h⟩ := bind_s h
    obtain ⟨lZ34, hlZ34, h⟩ := bnd_s h
    have eZ35 : (lZ31.map (e_TService .u)).set (Int.toNat sZ1.2.1) (.agg [.i yZ33.Id, .i yZ33.Class, .i yZ33.Work.Start, .lst .u 1 (yZ33.Work.Fibers.map AV.i), .i yZ33.WorkBlock.First, .i yZ33.WorkBlock.Count, .i yZ33.Spare.Start, .lst .u 1 (yZ33.Spare.Fibers.map AV.i), .i yZ33.SpareBlock.First, .i (IntKind.wrap .i64 (rZ27.1 + 1))]) = lZ34.map (e_TService .u) := by rw [← hlZ34, List.map_set]; rfl
    cases h
    exact ZL (ZA cZ2 (ZA hkZ3a (ZA hkZ3b (ZA hyZ4 (ZA eZ6 (ZA hyZ7 (ZA eZ9 (ZA hyZ10 (ZA eZ12 (ZA hyZ13 (ZA eZ16 (ZA hyZ17 (ZA eZ19 (ZA hyZ20 (ZA eZ22 (ZA hyZ23 (ZA eZ25 (ZA hyZ26 (ZA eZ29 (ZA hyZ30 (ZA eZ32 (ZA hyZ33 eZ35)))))))))))))))))))))) (ZA S_laws_markServiceSM1L1.eq_1 (ZA SX_laws_markServiceSM1L1.eq_1 (ZA hlZ5.symm (ZA hlZ8.symm (ZA hlZ11.symm (ZA hlZ15.symm (ZA hlZ18.symm (ZA hlZ21.symm (ZA hlZ24.symm (ZA hlZ28.symm (ZA hlZ31.symm hlZ34.symm)))))))))))
  · cases h
    exact ZL cZ2 (ZA S_laws_markServiceSM1L1.eq_1 SX_laws_markServiceSM1L1.eq_1)
theorem w_laws_markServiceSM1 (aaZ0 : Int) (abZ0 : List TService) {r : Int × List TService} (h : M_laws_markServiceSM1 aaZ0 abZ0 = some r) : OkH Tryz.prog 22 [.sl 1000000000 0 abZ0.length, .i aaZ0] [(1000000000, .arr 10 (abZ0.map (e_TService .u)))] ((fun (r : Int × List TService) => .i r.1) r) ((fun (r : Int × List TService) => [(1000000000, .arr 10 (r.2.map (e_TService .u)))]) r) := by
  refine okH_of_body (lr := [1000000000]) hmix m22M1 rfl ?_
  unfold M_laws_markServiceSM1 at h
  simp only [ZC, A22M1, V22M1]
  obtain ⟨oZ36, hoZ36, h⟩ := bind_s h
  try refine ZF trivial ?_
  refine join_rule0 (blk_rule0 (loop_rule (w_laws_markServiceSM1L1) hoZ36 ?_)) ?_
  · exact ZK (ZA S_laws_markServiceSM1L1.eq_1 SX_laws_markServiceSM1L1.eq_1)
  · simp only [ZC, SX_laws_markServiceSM1L1, A22M1R2]
    cases h
    exact ZL trivial V22M1.eq_1
def S_laws_heldIntSL1 (aZ0 : List Int) (v : Int × Int) : St := ⟨[(0, .lst .o 1 (aZ0.map AV.i)), (1, .i v.1), (5, .i v.2)], []⟩
def SX_laws_heldIntSL1 (v : Int) : St := ⟨[(1, .i v)], []⟩
theorem w_laws_heldIntSL1 (aZ0 : List Int) (sZ1 : Int × Int) (o : (Int × Int) ⊕ (Int ⊕ Int)) (h : M_laws_heldIntSL1 aZ0 sZ1 = some o) : AWP (OkS Tryz.prog) A24L1 (qL [0, 1, 5] [] (S_laws_heldIntSL1 aZ0) (qS (qX 0 [1] [] (SX_laws_heldIntSL1)) (qR V24 (fun r => .i r))) o) (S_laws_heldIntSL1 aZ0 sZ1) := by
  unfold M_laws_heldIntSL1 at h
  simp only [ZC, S_laws_heldIntSL1, A24L1]
  obtain ⟨cZ2, h⟩ | ⟨cZ2, h⟩ := cond_s h
  · obtain ⟨yZ3, hyZ3, h⟩ := bind_s h
    obtain ⟨hyZ3a, hyZ3b⟩ := geti_s hyZ3
    obtain ⟨cZ4, h⟩ | ⟨cZ4, h⟩ := cond_s h
    · cases h
      exact ZL (ZA cZ2 (ZA hyZ3a (ZA hyZ3b cZ4))) V24.eq_1
    · cases h
      exact ZL (ZA cZ2 (ZA hyZ3a (ZA hyZ3b cZ4))) (ZA S_laws_heldIntSL1.eq_1 SX_laws_heldIntSL1.eq_1)
  · cases h
    exact ZL cZ2 (ZA S_laws_heldIntSL1.eq_1 SX_laws_heldIntSL1.eq_1)
theorem w_laws_heldIntS (aZ0 : List Int) (kZ0 : Int) {r : Int} (h : M_laws_heldIntS aZ0 kZ0 = some r) : Ok Tryz.prog 24 [.lst .o 1 (aZ0.map AV.i), .i kZ0] ((fun r => .i r) r) := by
  refine ok_of_body hmix m24 rfl ?_
  unfold M_laws_heldIntS at h
  simp only [ZC, A24, V24, body_eq]
  obtain ⟨oZ5, hoZ5, h⟩ := bind_s h
  try refine ZF trivial ?_
  refine join_rule (o := oZ5) (blk_rule sideR (loop_rule (w_laws_heldIntSL1 aZ0) hoZ5 ?_)) (fun vZ6 hv => ?_) (fun xZ7 hv e τ hne hq => ?_)
  · exact ZK (ZA S_laws_heldIntSL1.eq_1 SX_laws_heldIntSL1.eq_1)
  · subst hv
    simp only [] at h
    simp only [ZC, SX_laws_heldIntSL1, A24R2]
    cases h
    exact ZL trivial V24.eq_1
  · subst hv
    simp only [] at h
    obtain ⟨rfl, qZ8⟩ := hq
    cases h
    exact qZ8
theorem w_laws_FnExactServiceMasks (aNZ0 : TNetwork) (aListZ0 : List TService) {r : Bool} (h : M_laws_FnExactServiceMasks aNZ0 aListZ0 = some r) : Ok Tryz.prog 3 [.agg [.lst .o 1 (aNZ0.Nodes.map AV.z), .lst .o 4 (aNZ0.Fibers.map (e_TFiber .o))], .lst .o 10 (aListZ0.map (e_TService .o))] ((fun r => .b r) r) := by
  refine ok_of_body hmix m3 rfl ?_
  unfold M_laws_FnExactServiceMasks at h
  simp only [ZC, A3, V3, body_eq]
  obtain ⟨rZ1, hrZ1, h⟩ := bind_s h
  refine ZF trivial ?_
  refine ZS trivial (w_laws_szNetwork _ _ hrZ1) ?_
  refine ZG ?_
  obtain ⟨cZ2, h⟩ | ⟨cZ2, h⟩ := cond_s h
  · cases h
    exact ZL cZ2 V3.eq_1
  · obtain ⟨rZ3, hrZ3, h⟩ := bind_s h
    refine ZF cZ2 ?_
    refine ZS cZ2 (w_laws_szServiceS _ _ hrZ3) ?_
    refine ZG ?_
    obtain ⟨cZ4, h⟩ | ⟨cZ4, h⟩ := cond_s h
    · cases h
      exact ZL (ZA cZ2 cZ4) V3.eq_1
    · obtain ⟨rZ5, hrZ5, h⟩ := bind_s h
      refine ZF (ZA cZ2 cZ4) ?_
      refine ZU (ZA cZ2 cZ4) (w_laws_toNetwork _ hrZ5) ?_
      refine ZG ?_
      obtain ⟨rZ6, hrZ6, h⟩ := bind_s h
      refine ZF (ZA cZ2 cZ4) ?_
      refine ZU (ZA cZ2 cZ4) (w_laws_toServiceS _ hrZ6) ?_
      refine ZG ?_
      obtain ⟨rZ7, hrZ7, h⟩ := bind_s h
      refine ZF (ZA cZ2 cZ4) ?_
      refine ZU (ZA cZ2 cZ4) (w_spec_ServiceMasks _ _ hrZ7) ?_
      refine ZG ?_
      obtain ⟨rZ8, hrZ8, h⟩ := bind_s h
      refine ZF (ZA cZ2 cZ4) ?_
      refine ZU (ZA cZ2 cZ4) (w_laws_toNetwork _ hrZ8) ?_
      refine ZG ?_
      obtain ⟨rZ9, hrZ9, h⟩ := bind_s h
      refine ZF (ZA cZ2 cZ4) ?_
      refine ZU (ZA cZ2 cZ4) (w_laws_toServiceS _ hrZ9) ?_
      refine ZG ?_
      obtain ⟨rZ10, hrZ10, h⟩ := bind_s h
      refine ZF (ZA cZ2 cZ4) ?_
      refine ZU (ZA cZ2 cZ4) (w_impl_ServiceMasks _ _ hrZ10) ?_
      refine ZG ?_
      obtain ⟨oZ15, hoZ15, h⟩ := bind_s h
      try refine ZF (ZA cZ2 cZ4) ?_
      refine join_rule0 (sh := (fun v => ⟨[(1, .lst .o 10 (aListZ0.map (e_TService .o))), (2, .pt 2 0 0), (6, .sl 6 0 rZ7.1.length), (7, .sl 7 0 rZ7.2.1.length), (8, .b rZ7.2.2), (9, .pt 9 0 0), (10, .sl 10 0 rZ9.length), (11, .sl 11 0 rZ10.1.length), (12, .sl 12 0 rZ10.2.1.length), (13, .b rZ10.2.2), (64, .b v)], [(2, .var (.agg [.lst .o 1 (aNZ0.Nodes.map AV.z), .lst .o 4 (aNZ0.Fibers.map (e_TFiber .o))])), (6, .arr 1 (rZ7.1.map AV.i)), (7, .arr 1 (rZ7.2.1.map AV.i)), (9, .var (.agg [.sl 40 0 rZ8.Nodes.length, .sl 1040 0 rZ8.Fibers.length])), (10, .arr 10 (rZ9.map (e_TService .u))), (11, .arr 1 (rZ10.1.map AV.i)), (12, .arr 1 (rZ10.2.1.map AV.i)), (40, .arr 1 (rZ8.Nodes.map AV.z)), (1040, .arr 4 (rZ8.Fibers.map (e_TFiber .u)))]⟩)) (s := oZ15) ?_ ?_
      · replace h := hoZ15
        obtain ⟨rZ11, hrZ11, h⟩ := bind_s h
        refine ZF (ZA cZ2 cZ4) ?_
        refine ZS (ZA cZ2 cZ4) (w_laws_eqIntS _ _ hrZ11) ?_
        refine ZG ?_
        obtain ⟨cZ12, h⟩ | ⟨cZ12, h⟩ := cond_s h
        · cases h
          exact ZL (ZA cZ2 (ZA cZ4 cZ12)) trivial
        · obtain ⟨rZ13, hrZ13, h⟩ := bind_s h
          refine ZF (ZA cZ2 (ZA cZ4 cZ12)) ?_
          refine ZS (ZA cZ2 (ZA cZ4 cZ12)) (w_laws_eqIntS _ _ hrZ13) ?_
          refine ZG ?_
          obtain ⟨cZ14, h⟩ | ⟨cZ14, h⟩ := cond_s h
          · cases h
            exact ZL (ZA cZ2 (ZA cZ4 (ZA cZ12 cZ14))) trivial
          · cases h
            exact ZL (ZA cZ2 (ZA cZ4 (ZA cZ12 cZ14))) trivial
      · simp only [ZC, A3R1]
        obtain ⟨cZ16, h⟩ | ⟨cZ16, h⟩ := cond_s h
        · cases h
          exact ZL (ZA cZ2 (ZA cZ4 cZ16)) V3.eq_1
        · obtain ⟨rZ17, hrZ17, h⟩ := bind_s h
          refine ZF (ZA cZ2 (ZA cZ4 cZ16)) ?_
          refine ZU (ZA cZ2 (ZA cZ4 cZ16)) (w_laws_toNetwork _ hrZ17) ?_
          refine ZG ?_
          obtain ⟨rZ18, hrZ18, h⟩ := bind_s h
          refine ZF (ZA cZ2 (ZA cZ4 cZ16)) ?_
          refine ZS (ZA cZ2 (ZA cZ4 cZ16)) (w_laws_eqNetwork _ _ hrZ18) ?_
          refine ZG ?_
          obtain ⟨cZ19, h⟩ | ⟨cZ19, h⟩ := cond_s h
          · cases h
            exact ZL (ZA cZ2 (ZA cZ4 (ZA cZ16 cZ19))) V3.eq_1
          · obtain ⟨rZ20, hrZ20, h⟩ := bind_s h
            refine ZF (ZA cZ2 (ZA cZ4 (ZA cZ16 cZ19))) ?_
            refine ZU (ZA cZ2 (ZA cZ4 (ZA cZ16 cZ19))) (w_laws_toServiceS _ hrZ20) ?_
            refine ZG ?_
            obtain ⟨rZ21, hrZ21, h⟩ := bind_s h
            refine ZF (ZA cZ2 (ZA cZ4 (ZA cZ16 cZ19))) ?_
            refine ZS (ZA cZ2 (ZA cZ4 (ZA cZ16 cZ19))) (w_laws_eqServiceS _ _ hrZ21) ?_
            refine ZG ?_
            obtain ⟨cZ22, h⟩ | ⟨cZ22, h⟩ := cond_s h
            · cases h
              exact ZL (ZA cZ2 (ZA cZ4 (ZA cZ16 (ZA cZ19 cZ22)))) V3.eq_1
            · obtain ⟨rZ23, hrZ23, h⟩ := bind_s h
              refine ZF (ZA cZ2 (ZA cZ4 (ZA cZ16 (ZA cZ19 cZ22)))) ?_
              refine ZW (ZA cZ2 (ZA cZ4 (ZA cZ16 (ZA cZ19 cZ22)))) (w_laws_markNetworkM1 _ _ _ hrZ23) (h2 := by first | exact nm_ok [1000000000, 1000000001] rfl (by decide +kernel) | exact nm_ok2 [1000000000, 1000000001] [] rfl (by decide +kernel) ZQ | exact ZQ) (hk := ?_)
              refine ZG ?_
              obtain ⟨rZ24, hrZ24, h⟩ := bind_s h
              refine ZF (ZA cZ2 (ZA cZ4 (ZA cZ16 (ZA cZ19 cZ22)))) ?_
              refine ⟨by simp [fz_mk, fz_sc, fz_lsto, fz_agg, fz_tup, fz_fn, fz_sl, fz_pt, fz_top, fzL_nil, fzL_cons, ou_sc, ou_lstu, ou_lsto, ou_agg, ouL_nil, ouL_cons, rfz_var, rfz_arr, rfz_dead, fzL_mi, fzL_mb, fzL_mz, fzL_m8, fzL_m64, ouL_m8, ouL_m64, ouL_mi, ouL_mb, ouL_mz, VZ1], call_m (ok := ⟨_, _, _⟩) (by simp only [VS1, VS2, VS3, VS4, VS5, VS6, VT1, VT2, finM_ret, finM_nrm, decide_true, decide_false, List.nodup_nil, List.nodup_cons, oks_p, oks_m, oks_h, ne_eq, not_false_eq_true, Int.reduceEq, Int.reduceNe, true_and, false_and, Nat.reduceSub, Nat.reduceMul, ↓reduceIte, reduceCtorEq, Nat.reduceEqDiff, Nat.reduceAdd, Nat.reduceLeDiff, Int.reduceLE, cZ2, cZ4, cZ16, cZ19, cZ22]; first | exact w_laws_markServiceSM1 _ _ hrZ24 | (have hw := w_laws_markServiceSM1 _ _ hrZ24; simp only [VS1, VS2, VS3, VS4, VS5, VS6, VT1, VT2, finM_ret, finM_nrm, decide_true, decide_false, List.nodup_nil, List.nodup_cons, oks_p, oks_m, oks_h, ne_eq, not_false_eq_true, Int.reduceEq, Int.reduceNe, true_and, false_and, Nat.reduceSub, Nat.reduceMul, ↓reduceIte, reduceCtorEq, Nat.reduceEqDiff, Nat.reduceAdd, Nat.reduceLeDiff, Int.reduceLE, cZ2, cZ4, cZ16, cZ19, cZ22] at hw; exact hw)) (by simp [VS1, VS2, VS3, VS4, VS5, VS6, VT1, VT2]) (by first | exact nm_ok [1000000000] rfl (by decide +kernel) | exact nm_ok2 [1000000000] [] rfl (by decide +kernel) (by simp [VS1, VS2, VS3, VS4, VS5, VS6, VT1, VT2]) | simp [VS1, VS2, VS3, VS4, VS5, VS6, VT1, VT2]) ?_⟩
              refine ZG ?_
              obtain ⟨oZ30, hoZ30, h⟩ := bind_s h
              try refine ZF (ZA cZ2 (ZA cZ4 (ZA cZ16 (ZA cZ19 cZ22)))) ?_
              refine join_rule0 (sh := (fun v => ⟨[(1, .lst .o 10 (aListZ0.map (e_TService .o))), (2, .pt 2 0 0), (6, .sl 6 0 rZ7.1.length), (7, .sl 7 0 rZ7.2.1.length), (8, .b rZ7.2.2), (11, .sl 11 0 rZ10.1.length), (12, .sl 12 0 rZ10.2.1.length), (99, .b v)], [(2, .var (.agg [.lst .o 1 (aNZ0.Nodes.map AV.z), .lst .o 4 (aNZ0.Fibers.map (e_TFiber .o))])), (6, .arr 1 (rZ7.1.map AV.i)), (7, .arr 1 (rZ7.2.1.map AV.i)), (11, .arr 1 (rZ10.1.map AV.i)), (12, .arr 1 (rZ10.2.1.map AV.i))]⟩)) (s := oZ30) ?_ ?_
              · replace h := hoZ30
                obtain ⟨cZ25, h⟩ | ⟨cZ25, h⟩ := cond_s h
                · cases h
                  exact ZL (ZA cZ2 (ZA cZ4 (ZA cZ16 (ZA cZ19 (ZA cZ22 cZ25))))) trivial
                · obtain ⟨rZ26, hrZ26, h⟩ := bind_s h
                  refine ZF (ZA cZ2 (ZA cZ4 (ZA cZ16 (ZA cZ19 (ZA cZ22 cZ25))))) ?_
                  refine ZS (ZA cZ2 (ZA cZ4 (ZA cZ16 (ZA cZ19 (ZA cZ22 cZ25))))) (w_laws_eqIntS _ _ hrZ26) ?_
                  refine ZG ?_
                  obtain ⟨cZ27, h⟩ | ⟨cZ27, h⟩ := cond_s h
                  · cases h
                    exact ZL (ZA cZ2 (ZA cZ4 (ZA cZ16 (ZA cZ19 (ZA cZ22 (ZA cZ25 cZ27)))))) trivial
                  · obtain ⟨rZ28, hrZ28, h⟩ := bind_s h
                    refine ZF (ZA cZ2 (ZA cZ4 (ZA cZ16 (ZA cZ19 (ZA cZ22 (ZA cZ25 cZ27)))))) ?_
                    refine ZS (ZA cZ2 (ZA cZ4 (ZA cZ16 (ZA cZ19 (ZA cZ22 (ZA cZ25 cZ27)))))) (w_laws_eqIntS _ _ hrZ28) ?_
                    refine ZG ?_
                    obtain ⟨cZ29, h⟩ | ⟨cZ29, h⟩ := cond_s h
                    · cases h
                      exact ZL (ZA cZ2 (ZA cZ4 (ZA cZ16 (ZA cZ19 (ZA cZ22 (ZA cZ25 (ZA cZ27 cZ29))))))) trivial
                    · cases h
                      exact ZL (ZA cZ2 (ZA cZ4 (ZA cZ16 (ZA cZ19 (ZA cZ22 (ZA cZ25 (ZA cZ27 cZ29))))))) trivial
              · simp only [ZC, A3R2]
                obtain ⟨cZ31, h⟩ | ⟨cZ31, h⟩ := cond_s h
                · cases h
                  exact ZL (ZA cZ2 (ZA cZ4 (ZA cZ16 (ZA cZ19 (ZA cZ22 cZ31))))) V3.eq_1
                · obtain ⟨rZ32, hrZ32, h⟩ := bind_s h
                  refine ZF (ZA cZ2 (ZA cZ4 (ZA cZ16 (ZA cZ19 (ZA cZ22 cZ31))))) ?_
                  refine ZW (ZA cZ2 (ZA cZ4 (ZA cZ16 (ZA cZ19 (ZA cZ22 cZ31))))) (w_laws_markIntSM1 _ _ hrZ32) (h2 := by first | exact nm_ok [1000000000] rfl (by decide +kernel) | exact nm_ok2 [1000000000] [] rfl (by decide +kernel) ZQ | exact ZQ) (hk := ?_)
                  refine ZG ?_
                  obtain ⟨rZ33, hrZ33, h⟩ := bind_s h
                  refine ZF (ZA cZ2 (ZA cZ4 (ZA cZ16 (ZA cZ19 (ZA cZ22 cZ31))))) ?_
                  refine ZW (ZA cZ2 (ZA cZ4 (ZA cZ16 (ZA cZ19 (ZA cZ22 cZ31))))) (w_laws_markIntSM1 _ _ hrZ33) (h2 := by first | exact nm_ok [1000000000] rfl (by decide +kernel) | exact nm_ok2 [1000000000] [] rfl (by decide +kernel) ZQ | exact ZQ) (hk := ?_)
                  refine ZG ?_
                  obtain ⟨lZ34, hlZ34, h⟩ := bnd_s h
                  have eZ35 : sub (rZ32.2.map AV.i) 0 rZ10.1.length = lZ34.map AV.i := by rw [sub_mapT, hlZ34]
                  obtain ⟨rZ36, hrZ36, h⟩ := bind_s h
                  refine ZF (ZA cZ2 (ZA cZ4 (ZA cZ16 (ZA cZ19 (ZA cZ22 (ZA cZ31 eZ35)))))) ?_
                  refine ZS (ZA cZ2 (ZA cZ4 (ZA cZ16 (ZA cZ19 (ZA cZ22 (ZA cZ31 eZ35)))))) (w_laws_heldIntS _ _ hrZ36) ?_
                  refine ZG ?_
                  obtain ⟨cZ37, h⟩ | ⟨cZ37, h⟩ := cond_s h
                  · cases h
                    exact ZL (ZA cZ2 (ZA cZ4 (ZA cZ16 (ZA cZ19 (ZA cZ22 (ZA cZ31 (ZA eZ35 cZ37))))))) V3.eq_1
                  · obtain ⟨lZ38, hlZ38, h⟩ := bnd_s h
                    have eZ39 : sub (rZ33.2.map AV.i) 0 rZ10.2.1.length = lZ38.map AV.i := by rw [sub_mapT, hlZ38]
                    obtain ⟨rZ40, hrZ40, h⟩ := bind_s h
                    refine ZF (ZA cZ2 (ZA cZ4 (ZA cZ16 (ZA cZ19 (ZA cZ22 (ZA cZ31 (ZA eZ35 (ZA cZ37 eZ39)))))))) ?_
                    refine ZS (ZA cZ2 (ZA cZ4 (ZA cZ16 (ZA cZ19 (ZA cZ22 (ZA cZ31 (ZA eZ35 (ZA cZ37 eZ39)))))))) (w_laws_heldIntS _ _ hrZ40) ?_
                    refine ZG ?_
                    obtain ⟨cZ41, h⟩ | ⟨cZ41, h⟩ := cond_s h
                    · cases h
                      exact ZL (ZA cZ2 (ZA cZ4 (ZA cZ16 (ZA cZ19 (ZA cZ22 (ZA cZ31 (ZA eZ35 (ZA cZ37 (ZA eZ39 cZ41))))))))) V3.eq_1
                    · obtain ⟨cZ42, h⟩ | ⟨cZ42, h⟩ := cond_s h
                      · cases h
                        exact ZL (ZA cZ2 (ZA cZ4 (ZA cZ16 (ZA cZ19 (ZA cZ22 (ZA cZ31 (ZA eZ35 (ZA cZ37 (ZA eZ39 (ZA cZ41 cZ42)))))))))) V3.eq_1
                      · obtain ⟨rZ43, hrZ43, h⟩ := bind_s h
                        refine ZF (ZA cZ2 (ZA cZ4 (ZA cZ16 (ZA cZ19 (ZA cZ22 (ZA cZ31 (ZA eZ35 (ZA cZ37 (ZA eZ39 (ZA cZ41 cZ42)))))))))) ?_
                        refine ZU (ZA cZ2 (ZA cZ4 (ZA cZ16 (ZA cZ19 (ZA cZ22 (ZA cZ31 (ZA eZ35 (ZA cZ37 (ZA eZ39 (ZA cZ41 cZ42)))))))))) (w_laws_toNetwork _ hrZ43) ?_
                        refine ZG ?_
                        obtain ⟨rZ44, hrZ44, h⟩ := bind_s h
                        refine ZF (ZA cZ2 (ZA cZ4 (ZA cZ16 (ZA cZ19 (ZA cZ22 (ZA cZ31 (ZA eZ35 (ZA cZ37 (ZA eZ39 (ZA cZ41 cZ42)))))))))) ?_
                        refine ZU (ZA cZ2 (ZA cZ4 (ZA cZ16 (ZA cZ19 (ZA cZ22 (ZA cZ31 (ZA eZ35 (ZA cZ37 (ZA eZ39 (ZA cZ41 cZ42)))))))))) (w_laws_toServiceS _ hrZ44) ?_
                        refine ZG ?_
                        obtain ⟨rZ45, hrZ45, h⟩ := bind_s h
                        refine ZF (ZA cZ2 (ZA cZ4 (ZA cZ16 (ZA cZ19 (ZA cZ22 (ZA cZ31 (ZA eZ35 (ZA cZ37 (ZA eZ39 (ZA cZ41 cZ42)))))))))) ?_
                        refine ZU (ZA cZ2 (ZA cZ4 (ZA cZ16 (ZA cZ19 (ZA cZ22 (ZA cZ31 (ZA eZ35 (ZA cZ37 (ZA eZ39 (ZA cZ41 cZ42)))))))))) (w_impl_ServiceMasks _ _ hrZ45) ?_
                        refine ZG ?_
                        obtain ⟨oZ50, hoZ50, h⟩ := bind_s h
                        try refine ZF (ZA cZ2 (ZA cZ4 (ZA cZ16 (ZA cZ19 (ZA cZ22 (ZA cZ31 (ZA eZ35 (ZA cZ37 (ZA eZ39 (ZA cZ41 cZ42)))))))))) ?_
                        refine join_rule0 (sh := (fun v => ⟨[(11, .sl 11 0 rZ10.1.length), (12, .sl 12 0 rZ10.2.1.length), (15, .i rZ33.1), (142, .b v)], [(11, .arr 1 (rZ32.2.map AV.i)), (12, .arr 1 (rZ33.2.map AV.i))]⟩)) (s := oZ50) ?_ ?_
                        · replace h := hoZ50
                          obtain ⟨rZ46, hrZ46, h⟩ := bind_s h
                          refine ZF (ZA cZ2 (ZA cZ4 (ZA cZ16 (ZA cZ19 (ZA cZ22 (ZA cZ31 (ZA eZ35 (ZA cZ37 (ZA eZ39 (ZA cZ41 cZ42)))))))))) ?_
                          refine ZS (ZA cZ2 (ZA cZ4 (ZA cZ16 (ZA cZ19 (ZA cZ22 (ZA cZ31 (ZA eZ35 (ZA cZ37 (ZA eZ39 (ZA cZ41 cZ42)))))))))) (w_laws_eqIntS _ _ hrZ46) ?_
                          refine ZG ?_
                          obtain ⟨cZ47, h⟩ | ⟨cZ47, h⟩ := cond_s h
                          · cases h
                            exact ZL (ZA cZ2 (ZA cZ4 (ZA cZ16 (ZA cZ19 (ZA cZ22 (ZA cZ31 (ZA eZ35 (ZA cZ37 (ZA eZ39 (ZA cZ41 (ZA cZ42 cZ47))))))))))) trivial
                          · obtain ⟨rZ48, hrZ48, h⟩ := bind_s h
                            refine ZF (ZA cZ2 (ZA cZ4 (ZA cZ16 (ZA cZ19 (ZA cZ22 (ZA cZ31 (ZA eZ35 (ZA cZ37 (ZA eZ39 (ZA cZ41 (ZA cZ42 cZ47))))))))))) ?_
                            refine ZS (ZA cZ2 (ZA cZ4 (ZA cZ16 (ZA cZ19 (ZA cZ22 (ZA cZ31 (ZA eZ35 (ZA cZ37 (ZA eZ39 (ZA cZ41 (ZA cZ42 cZ47))))))))))) (w_laws_eqIntS _ _ hrZ48) ?_
                            refine ZG ?_
                            obtain ⟨cZ49, h⟩ | ⟨cZ49, h⟩ := cond_s h
                            · cases h
                              exact ZL (ZA cZ2 (ZA cZ4 (ZA cZ16 (ZA cZ19 (ZA cZ22 (ZA cZ31 (ZA eZ35 (ZA cZ37 (ZA eZ39 (ZA cZ41 (ZA cZ42 (ZA cZ47 cZ49)))))))))))) trivial
                            · cases h
                              exact ZL (ZA cZ2 (ZA cZ4 (ZA cZ16 (ZA cZ19 (ZA cZ22 (ZA cZ31 (ZA eZ35 (ZA cZ37 (ZA eZ39 (ZA cZ41 (ZA cZ42 (ZA cZ47 cZ49)))))))))))) trivial
                        · simp only [ZC, A3R3]
                          obtain ⟨cZ51, h⟩ | ⟨cZ51, h⟩ := cond_s h
                          · cases h
                            exact ZL (ZA cZ2 (ZA cZ4 (ZA cZ16 (ZA cZ19 (ZA cZ22 (ZA cZ31 (ZA eZ35 (ZA cZ37 (ZA eZ39 (ZA cZ41 (ZA cZ42 cZ51))))))))))) V3.eq_1
                          · obtain ⟨rZ52, hrZ52, h⟩ := bind_s h
                            refine ZF (ZA cZ2 (ZA cZ4 (ZA cZ16 (ZA cZ19 (ZA cZ22 (ZA cZ31 (ZA eZ35 (ZA cZ37 (ZA eZ39 (ZA cZ41 (ZA cZ42 cZ51))))))))))) ?_
                            refine ZS (ZA cZ2 (ZA cZ4 (ZA cZ16 (ZA cZ19 (ZA cZ22 (ZA cZ31 (ZA eZ35 (ZA cZ37 (ZA eZ39 (ZA cZ41 (ZA cZ42 cZ51))))))))))) (w_laws_heldIntS _ _ hrZ52) ?_
                            refine ZG ?_
                            obtain ⟨cZ53, h⟩ | ⟨cZ53, h⟩ := cond_s h
                            · cases h
                              exact ZL (ZA cZ2 (ZA cZ4 (ZA cZ16 (ZA cZ19 (ZA cZ22 (ZA cZ31 (ZA eZ35 (ZA cZ37 (ZA eZ39 (ZA cZ41 (ZA cZ42 (ZA cZ51 cZ53)))))))))))) V3.eq_1
                            · obtain ⟨rZ54, hrZ54, h⟩ := bind_s h
                              refine ZF (ZA cZ2 (ZA cZ4 (ZA cZ16 (ZA cZ19 (ZA cZ22 (ZA cZ31 (ZA eZ35 (ZA cZ37 (ZA eZ39 (ZA cZ41 (ZA cZ42 (ZA cZ51 cZ53)))))))))))) ?_
                              refine ZS (ZA cZ2 (ZA cZ4 (ZA cZ16 (ZA cZ19 (ZA cZ22 (ZA cZ31 (ZA eZ35 (ZA cZ37 (ZA eZ39 (ZA cZ41 (ZA cZ42 (ZA cZ51 cZ53)))))))))))) (w_laws_heldIntS _ _ hrZ54) ?_
                              refine ZG ?_
                              obtain ⟨cZ55, h⟩ | ⟨cZ55, h⟩ := cond_s h
                              · cases h
                                exact ZL (ZA cZ2 (ZA cZ4 (ZA cZ16 (ZA cZ19 (ZA cZ22 (ZA cZ31 (ZA eZ35 (ZA cZ37 (ZA eZ39 (ZA cZ41 (ZA cZ42 (ZA cZ51 (ZA cZ53 cZ55))))))))))))) V3.eq_1
                              · obtain ⟨cZ56, h⟩ | ⟨cZ56, h⟩ := cond_s h
                                · cases h
                                  exact ZL (ZA cZ2 (ZA cZ4 (ZA cZ16 (ZA cZ19 (ZA cZ22 (ZA cZ31 (ZA eZ35 (ZA cZ37 (ZA eZ39 (ZA cZ41 (ZA cZ42 (ZA cZ51 (ZA cZ53 (ZA cZ55 cZ56)))))))))))))) V3.eq_1
                                · cases h
                                  exact ZL (ZA cZ2 (ZA cZ4 (ZA cZ16 (ZA cZ19 (ZA cZ22 (ZA cZ31 (ZA eZ35 (ZA cZ37 (ZA eZ39 (ZA cZ41 (ZA cZ42 (ZA cZ51 (ZA cZ53 (ZA cZ55 cZ56)))))))))))))) V3.eq_1
end Vs

