/-
  Part of the proof that the law FnExactRepairOrder returns true at every input; no condition beside the row's own.
-/
import Derived.Test.YtfmhphgpijjejaaGreatAa
set_option linter.defProp false
set_option linter.unusedSimpArgs false
set_option linter.unusedVariables false
set_option maxHeartbeats 1000000
set_option maxRecDepth 8000
namespace Vs
open Go Go.Proofs
attribute [local irreducible] AWP stOps eff awpC callA callM
theorem VT1 : (∀ (f : Fl) (x : TFiber), e_TFiber f x = .agg [.i x.A, .i x.B, .i x.Length, .i x.Risk]) ∧
 (∀ (f : Fl) (x : TNetwork), e_TNetwork f x = .agg [.lst f 1 (x.Nodes.map AV.z), .lst f 4 (x.Fibers.map (e_TFiber f))]) ∧
 (∀ (f : Fl) (x : TRoute), e_TRoute f x = .agg [.i x.Start, .lst f 1 (x.Fibers.map AV.i)]) ∧
 (∀ (f : Fl) (x : TBlock), e_TBlock f x = .agg [.i x.First, .i x.Count]) ∧
 (∀ (f : Fl) (x : TService), e_TService f x = .agg [.i x.Id, .i x.Class, .i x.Work.Start, .lst f 1 (x.Work.Fibers.map AV.i), .i x.WorkBlock.First, .i x.WorkBlock.Count, .i x.Spare.Start, .lst f 1 (x.Spare.Fibers.map AV.i), .i x.SpareBlock.First, .i x.SpareBlock.Count]) ∧
 (∀ (f : Fl) (x : List Int), e_Li f x = .lst f 1 (x.map AV.i)) ∧
 (∀ (f : Fl) (x : TLight), e_TLight f x = .agg [.i x.Id, .i x.Route.Start, .lst f 1 (x.Route.Fibers.map AV.i), .i x.Block.First, .i x.Block.Count]) := ⟨fun _ _ => rfl, fun _ _ => rfl, fun _ _ => rfl, fun _ _ => rfl, fun _ _ => rfl, fun _ _ => rfl, fun _ _ => rfl⟩
theorem VT2 : (∀ (f : Fl) (x : TFiber), (e_TFiber f x).nrm = e_TFiber .o x) ∧
 (∀ (f : Fl) (xs : List TFiber), (xs.map (e_TFiber f)).map AV.nrm = xs.map (e_TFiber .o)) ∧
 (∀ (f : Fl) (x : TFiber), (e_TFiber f x).als = e_TFiber f.als x) ∧
 (∀ (f : Fl) (xs : List TFiber), (xs.map (e_TFiber f)).map AV.als = xs.map (e_TFiber f.als)) ∧
 (∀ (f : Fl) (x : TFiber), (e_TFiber f x).fix = e_TFiber f.fix x) ∧
 (∀ (f : Fl) (xs : List TFiber), (xs.map (e_TFiber f)).map AV.fix = xs.map (e_TFiber f.fix)) ∧
 (∀ (f : Fl) (x : TNetwork), (e_TNetwork f x).nrm = e_TNetwork .o x) ∧
 (∀ (f : Fl) (xs : List TNetwork), (xs.map (e_TNetwork f)).map AV.nrm = xs.map (e_TNetwork .o)) ∧
 (∀ (f : Fl) (x : TNetwork), (e_TNetwork f x).als = e_TNetwork f.als x) ∧
 (∀ (f : Fl) (xs : List TNetwork), (xs.map (e_TNetwork f)).map AV.als = xs.map (e_TNetwork f.als)) ∧
 (∀ (f : Fl) (x : TNetwork), (e_TNetwork f x).fix = e_TNetwork f.fix x) ∧
 (∀ (f : Fl) (xs : List TNetwork), (xs.map (e_TNetwork f)).map AV.fix = xs.map (e_TNetwork f.fix)) ∧
 (∀ (f : Fl) (x : TRoute), (e_TRoute f x).nrm = e_TRoute .o x) ∧
 (∀ (f : Fl) (xs : List TRoute), (xs.map (e_TRoute f)).map AV.nrm = xs.map (e_TRoute .o)) ∧
 (∀ (f : Fl) (x : TRoute), (e_TRoute f x).als = e_TRoute f.als x) ∧
 (∀ (f : Fl) (xs : List TRoute), (xs.map (e_TRoute f)).map AV.als = xs.map (e_TRoute f.als)) ∧
 (∀ (f : Fl) (x : TRoute), (e_TRoute f x).fix = e_TRoute f.fix x) ∧
 (∀ (f : Fl) (xs : List TRoute), (xs.map (e_TRoute f)).map AV.fix = xs.map (e_TRoute f.fix)) ∧
 (∀ (f : Fl) (x : TBlock), (e_TBlock f x).nrm = e_TBlock .o x) ∧
 (∀ (f : Fl) (xs : List TBlock), (xs.map (e_TBlock f)).map AV.nrm = xs.map (e_TBlock .o)) ∧
 (∀ (f : Fl) (x : TBlock), (e_TBlock f x).als = e_TBlock f.als x) ∧
 (∀ (f : Fl) (xs : List TBlock), (xs.map (e_TBlock f)).map AV.als = xs.map (e_TBlock f.als)) ∧
 (∀ (f : Fl) (x : TBlock), (e_TBlock f x).fix = e_TBlock f.fix x) ∧
 (∀ (f : Fl) (xs : List TBlock), (xs.map (e_TBlock f)).map AV.fix = xs.map (e_TBlock f.fix)) ∧
 (∀ (f : Fl) (x : TService), (e_TService f x).nrm = e_TService .o x) ∧
 (∀ (f : Fl) (xs : List TService), (xs.map (e_TService f)).map AV.nrm = xs.map (e_TService .o)) ∧
 (∀ (f : Fl) (x : TService), (e_TService f x).als = e_TService f.als x) ∧
 (∀ (f : Fl) (xs : List TService), (xs.map (e_TService f)).map AV.als = xs.map (e_TService f.als)) ∧
 (∀ (f : Fl) (x : TService), (e_TService f x).fix = e_TService f.fix x) ∧
 (∀ (f : Fl) (xs : List TService), (xs.map (e_TService f)).map AV.fix = xs.map (e_TService f.fix)) ∧
 (∀ (f : Fl) (x : List Int), (e_Li f x).nrm = e_Li .o x) ∧
 (∀ (f : Fl) (xs : List (List Int)), (xs.map (e_Li f)).map AV.nrm = xs.map (e_Li .o)) ∧
 (∀ (f : Fl) (x : List Int), (e_Li f x).als = e_Li f.als x) ∧
 (∀ (f : Fl) (xs : List (List Int)), (xs.map (e_Li f)).map AV.als = xs.map (e_Li f.als)) ∧
 (∀ (f : Fl) (x : List Int), (e_Li f x).fix = e_Li f.fix x) ∧
 (∀ (f : Fl) (xs : List (List Int)), (xs.map (e_Li f)).map AV.fix = xs.map (e_Li f.fix)) ∧
 (∀ (f : Fl) (x : TLight), (e_TLight f x).nrm = e_TLight .o x) ∧
 (∀ (f : Fl) (xs : List TLight), (xs.map (e_TLight f)).map AV.nrm = xs.map (e_TLight .o)) ∧
 (∀ (f : Fl) (x : TLight), (e_TLight f x).als = e_TLight f.als x) ∧
 (∀ (f : Fl) (xs : List TLight), (xs.map (e_TLight f)).map AV.als = xs.map (e_TLight f.als)) ∧
 (∀ (f : Fl) (x : TLight), (e_TLight f x).fix = e_TLight f.fix x) ∧
 (∀ (f : Fl) (xs : List TLight), (xs.map (e_TLight f)).map AV.fix = xs.map (e_TLight f.fix)) :=
 ⟨@e_TFiber_nrm, @e_TFiber_nrmm, @e_TFiber_als, @e_TFiber_alsm, @e_TFiber_fix, @e_TFiber_fixm, @e_TNetwork_nrm, @e_TNetwork_nrmm, @e_TNetwork_als, @e_TNetwork_alsm, @e_TNetwork_fix, @e_TNetwork_fixm, @e_TRoute_nrm, @e_TRoute_nrmm, @e_TRoute_als, @e_TRoute_alsm, @e_TRoute_fix, @e_TRoute_fixm, @e_TBlock_nrm, @e_TBlock_nrmm, @e_TBlock_als, @e_TBlock_alsm, @e_TBlock_fix, @e_TBlock_fixm, @e_TService_nrm, @e_TService_nrmm, @e_TService_als, @e_TService_alsm, @e_TService_fix, @e_TService_fixm, @e_Li_nrm, @e_Li_nrmm, @e_Li_als, @e_Li_alsm, @e_Li_fix, @e_Li_fixm, @e_TLight_nrm, @e_TLight_nrmm, @e_TLight_als, @e_TLight_alsm, @e_TLight_fix, @e_TLight_fixm⟩
theorem VF1 : (∀ (f : Fl) (x : TFiber), (e_TFiber f x).fix = e_TFiber f.fix x) ∧
 (∀ (f : Fl) (xs : List TFiber), (xs.map (e_TFiber f)).map AV.fix = xs.map (e_TFiber f.fix)) ∧
 (∀ (f : Fl) (x : TNetwork), (e_TNetwork f x).fix = e_TNetwork f.fix x) ∧
 (∀ (f : Fl) (xs : List TNetwork), (xs.map (e_TNetwork f)).map AV.fix = xs.map (e_TNetwork f.fix)) ∧
 (∀ (f : Fl) (x : TRoute), (e_TRoute f x).fix = e_TRoute f.fix x) ∧
 (∀ (f : Fl) (xs : List TRoute), (xs.map (e_TRoute f)).map AV.fix = xs.map (e_TRoute f.fix)) ∧
 (∀ (f : Fl) (x : TBlock), (e_TBlock f x).fix = e_TBlock f.fix x) ∧
 (∀ (f : Fl) (xs : List TBlock), (xs.map (e_TBlock f)).map AV.fix = xs.map (e_TBlock f.fix)) ∧
 (∀ (f : Fl) (x : TService), (e_TService f x).fix = e_TService f.fix x) ∧
 (∀ (f : Fl) (xs : List TService), (xs.map (e_TService f)).map AV.fix = xs.map (e_TService f.fix)) ∧
 (∀ (f : Fl) (x : List Int), (e_Li f x).fix = e_Li f.fix x) ∧
 (∀ (f : Fl) (xs : List (List Int)), (xs.map (e_Li f)).map AV.fix = xs.map (e_Li f.fix)) ∧
 (∀ (f : Fl) (x : TLight), (e_TLight f x).fix = e_TLight f.fix x) ∧
 (∀ (f : Fl) (xs : List TLight), (xs.map (e_TLight f)).map AV.fix = xs.map (e_TLight f.fix)) :=
 ⟨@e_TFiber_fix, @e_TFiber_fixm, @e_TNetwork_fix, @e_TNetwork_fixm, @e_TRoute_fix, @e_TRoute_fixm, @e_TBlock_fix, @e_TBlock_fixm, @e_TService_fix, @e_TService_fixm, @e_Li_fix, @e_Li_fixm, @e_TLight_fix, @e_TLight_fixm⟩
theorem VZ1 : (∀ (x : TFiber), (e_TFiber .o x).fz = true) ∧
 (∀ (xs : List TFiber), fzL (xs.map (e_TFiber .o)) = true) ∧
 (∀ (x : TFiber), (e_TFiber .u x).ouB = true) ∧
 (∀ (xs : List TFiber), ouBL (xs.map (e_TFiber .u)) = true) ∧
 (∀ (x : TNetwork), (e_TNetwork .o x).fz = true) ∧
 (∀ (xs : List TNetwork), fzL (xs.map (e_TNetwork .o)) = true) ∧
 (∀ (x : TNetwork), (e_TNetwork .u x).ouB = true) ∧
 (∀ (xs : List TNetwork), ouBL (xs.map (e_TNetwork .u)) = true) ∧
 (∀ (x : TRoute), (e_TRoute .o x).fz = true) ∧
 (∀ (xs : List TRoute), fzL (xs.map (e_TRoute .o)) = true) ∧
 (∀ (x : TRoute), (e_TRoute .u x).ouB = true) ∧
 (∀ (xs : List TRoute), ouBL (xs.map (e_TRoute .u)) = true) ∧
 (∀ (x : TBlock), (e_TBlock .o x).fz = true) ∧
 (∀ (xs : List TBlock), fzL (xs.map (e_TBlock .o)) = true) ∧
 (∀ (x : TBlock), (e_TBlock .u x).ouB = true) ∧
 (∀ (xs : List TBlock), ouBL (xs.map (e_TBlock .u)) = true) ∧
 (∀ (x : TService), (e_TService .o x).fz = true) ∧
 (∀ (xs : List TService), fzL (xs.map (e_TService .o)) = true) ∧
 (∀ (x : TService), (e_TService .u x).ouB = true) ∧
 (∀ (xs : List TService), ouBL (xs.map (e_TService .u)) = true) ∧
 (∀ (x : List Int), (e_Li .o x).fz = true) ∧
 (∀ (xs : List (List Int)), fzL (xs.map (e_Li .o)) = true) ∧
 (∀ (x : List Int), (e_Li .u x).ouB = true) ∧
 (∀ (xs : List (List Int)), ouBL (xs.map (e_Li .u)) = true) ∧
 (∀ (x : TLight), (e_TLight .o x).fz = true) ∧
 (∀ (xs : List TLight), fzL (xs.map (e_TLight .o)) = true) ∧
 (∀ (x : TLight), (e_TLight .u x).ouB = true) ∧
 (∀ (xs : List TLight), ouBL (xs.map (e_TLight .u)) = true) :=
 ⟨@e_TFiber_fz, @e_TFiber_fzm, @e_TFiber_ou, @e_TFiber_oum, @e_TNetwork_fz, @e_TNetwork_fzm, @e_TNetwork_ou, @e_TNetwork_oum, @e_TRoute_fz, @e_TRoute_fzm, @e_TRoute_ou, @e_TRoute_oum, @e_TBlock_fz, @e_TBlock_fzm, @e_TBlock_ou, @e_TBlock_oum, @e_TService_fz, @e_TService_fzm, @e_TService_ou, @e_TService_oum, @e_Li_fz, @e_Li_fzm, @e_Li_ou, @e_Li_oum, @e_TLight_fz, @e_TLight_fzm, @e_TLight_ou, @e_TLight_oum⟩
theorem Zr {α : Type} (n : Nat) (a : α) : (List.replicate n a).length = n := List.length_replicate
theorem ZA {A B : Prop} (a : A) (b : B) : A ∧ B := ⟨a, b⟩
theorem ZF {A : Prop} (a : A) {P Q : Prop} (k : Q) (e : A → P = Q := by intro a; simp only [VS1, VS2, VS3, VS4, VS5, VS6, VT1, VT2, finM_ret, finM_nrm, decide_true, decide_false, List.nodup_nil, List.nodup_cons, oks_p, oks_m, oks_h, ne_eq, not_false_eq_true, Int.reduceEq, Int.reduceNe, true_and, false_and, Nat.reduceSub, Nat.reduceMul, ↓reduceIte, reduceCtorEq, Nat.reduceEqDiff, Nat.reduceAdd, Nat.reduceLeDiff, Int.reduceLE, a]; exact Eq.refl _) : P := (e a).mpr k
theorem ZG {P Q : Prop} (k : Q) (e : P = Q := by simp only [VA, VF1, ↓reduceIte, Nat.reduceEqDiff, Nat.reduceAdd, Nat.reduceMul, Nat.reduceSub, Nat.reduceLeDiff]; exact Eq.refl _) : P := e.mpr k
theorem ZL {A : Prop} (a : A) {B : Prop} (b : B) {P : Prop} (e : A → B → P := by intro a b; (try simp only [VS1, VS2, VS3, VS4, VS5, VS6, VT1, VT2, finM_ret, finM_nrm, decide_true, decide_false, List.nodup_nil, List.nodup_cons, oks_p, oks_m, oks_h, ne_eq, not_false_eq_true, Int.reduceEq, Int.reduceNe, true_and, false_and, Nat.reduceSub, Nat.reduceMul, ↓reduceIte, reduceCtorEq, Nat.reduceEqDiff, Nat.reduceAdd, Nat.reduceLeDiff, Int.reduceLE, a]); all_goals simp [qL, qJ, qJ0, qS, qX, qR, qM, Shp, sub, tupd, finM_ret, finM_nrm, VS1, VS2, VS3, VS4, VS5, VS6, VT1, VT2, b]) : P := e a b
theorem ZK {B : Prop} (b : B) {P : Prop} (e : B → P := by intro b; simp [qL, qJ, qJ0, qS, qX, qR, qM, Shp, sub, tupd, finM_ret, finM_nrm, VS1, VS2, VS3, VS4, VS5, VS6, VT1, VT2, b]) : P := e b
theorem ZS {A : Prop} (a : A) {W : Prop} (w : W) {ok : Oks} {ρ : Nat → Option Row} {d f : Nat} {args : List AV} {K : AV → List (Nat × Row) → Prop} {v : Value} (hk : K (.sc v) [])
 (e : A → W → ok.p f (args.map (snp ρ 4)) (.sc v) := by intro a w; simp only [VS1, VS2, VS3, VS4, VS5, VS6, VT1, VT2, finM_ret, finM_nrm, decide_true, decide_false, List.nodup_nil, List.nodup_cons, oks_p, oks_m, oks_h, ne_eq, not_false_eq_true, Int.reduceEq, Int.reduceNe, true_and, false_and, Nat.reduceSub, Nat.reduceMul, ↓reduceIte, reduceCtorEq, Nat.reduceEqDiff, Nat.reduceAdd, Nat.reduceLeDiff, Int.reduceLE, a]; exact w) : callA ok ρ d f args K := call_s (e a w) hk
theorem ZU {A : Prop} (a : A) {W : Prop} (w : W) {ok : Oks} {ρ : Nat → Option Row} {d f : Nat} {args : List AV} {K : AV → List (Nat × Row) → Prop} {res : AV} (hk : K (adopt 4 d res).1 (adopt 4 d res).2.1)
 (e : A → W → ok.p f (args.map (snp ρ 4)) res := by intro a w; simp only [VS1, VS2, VS3, VS4, VS5, VS6, VT1, VT2, finM_ret, finM_nrm, decide_true, decide_false, List.nodup_nil, List.nodup_cons, oks_p, oks_m, oks_h, ne_eq, not_false_eq_true, Int.reduceEq, Int.reduceNe, true_and, false_and, Nat.reduceSub, Nat.reduceMul, ↓reduceIte, reduceCtorEq, Nat.reduceEqDiff, Nat.reduceAdd, Nat.reduceLeDiff, Int.reduceLE, a]; exact w) (hu : res.allU := by simp [AV.allU, allUL, allUL_iff, VT1, VT2]) (hn : ∀ p ∈ (adopt 4 d res).2.1, ρ p.1 = none ∧ p.1 < 1000000000 := by simp only [VS1, VS2, VS3, VS4, VS5, VS6, VT1, VT2, finM_ret, finM_nrm, decide_true, decide_false, List.nodup_nil, List.nodup_cons, oks_p, oks_m, oks_h, ne_eq, not_false_eq_true, Int.reduceEq, Int.reduceNe, true_and, false_and, Nat.reduceSub, Nat.reduceMul, ↓reduceIte, reduceCtorEq, Nat.reduceEqDiff, Nat.reduceAdd, Nat.reduceLeDiff, Int.reduceLE, Nat.reduceLT]) : callA ok ρ d f args K := call_u (e a w) hu hn hk
theorem ZQ {P : Prop} (e : P := by simp [VS1, VS2, VS3, VS4, VS5, VS6, VT1, VT2]) : P := e
theorem ZW {A : Prop} (a : A) {W : Prop} (w : W) {ok : Oks} {ρ : Nat → Option Row} {d f : Nat} {args : List AV} {rs : List Nat} {K : AV → List (Nat × Row) → Prop} {res : AV} {outs : List (Nat × Row)}
 (e : A → W → ok.m f (args.map (AV.rg (cnm rs))) (rs.map (rowIn ρ rs)) res outs := by intro a w; simp only [VS1, VS2, VS3, VS4, VS5, VS6, VT1, VT2, finM_ret, finM_nrm, decide_true, decide_false, List.nodup_nil, List.nodup_cons, oks_p, oks_m, oks_h, ne_eq, not_false_eq_true, Int.reduceEq, Int.reduceNe, true_and, false_and, Nat.reduceSub, Nat.reduceMul, ↓reduceIte, reduceCtorEq, Nat.reduceEqDiff, Nat.reduceAdd, Nat.reduceLeDiff, Int.reduceLE, a]; first | exact w | (simp only [VS1, VS2, VS3, VS4, VS5, VS6, VT1, VT2, finM_ret, finM_nrm, decide_true, decide_false, List.nodup_nil, List.nodup_cons, oks_p, oks_m, oks_h, ne_eq, not_false_eq_true, Int.reduceEq, Int.reduceNe, true_and, false_and, Nat.reduceSub, Nat.reduceMul, ↓reduceIte, reduceCtorEq, Nat.reduceEqDiff, Nat.reduceAdd, Nat.reduceLeDiff, Int.reduceLE, a] at w; exact w))
 (h1 : rs.Nodup ∧ (∀ r ∈ rs, isLive (ρ r)) ∧ (∀ r ∈ rs, ∀ q ∈ oments (ρ r), q ∈ rs) ∧ (∀ r ∈ mentsL args, r ∈ rs) := by simp [VS1, VS2, VS3, VS4, VS5, VS6, VT1, VT2])
 (h2 : (outs.map fun p => bkn d rs p.1).Nodup ∧ (∀ p ∈ outs, 1000000000 ≤ p.1 → p.1 - 1000000000 < rs.length) ∧ (∀ p ∈ outs, p.1 < 1000000000 → ρ (bkn d rs p.1) = none ∧ bkn d rs p.1 < 1000000000))
 (hk : K (res.rg (bkn d rs)) (gone rs ++ outs.map (rowBk d rs))) : callM ok ρ d f args rs K := call_m (e a w) h1 h2 hk
def S_ac (aZ0 : List ByteArray) (v : Int × Int) : St := ⟨[(0, .lst .o 1 (aZ0.map AV.z)), (1, .i v.1), (5, .i v.2)], []⟩
def SX_ac (v : Int) : St := ⟨[(1, .i v)], []⟩
theorem w_ac (aZ0 : List ByteArray) (sZ2 : Int × Int) (o : (Int × Int) ⊕ (Int ⊕ Int)) (h : M_ac aZ0 sZ2 = some o) : AWP (OkS Tryz.prog) A103L1 (qL [0, 1, 5] [] (S_ac aZ0) (qS (qX 0 [1] [] (SX_ac)) (qR V103 (fun r => .i r))) o) (S_ac aZ0 sZ2) := by
 unfold M_ac at h
 simp only [ZC, S_ac, A103L1]
 obtain ⟨cZ3, h⟩ | ⟨cZ3, h⟩ := cond_s h
 · obtain ⟨yZ4, hyZ4, h⟩ := bind_s h
   obtain ⟨hyZ4a, hyZ4b⟩ := geti_s hyZ4
   obtain ⟨cZ5, h⟩ | ⟨cZ5, h⟩ := cond_s h
   · cases h
     exact ZL (ZA cZ3 (ZA hyZ4a (ZA hyZ4b cZ5))) V103.eq_1
   · cases h
     exact ZL (ZA cZ3 (ZA hyZ4a (ZA hyZ4b cZ5))) (ZA S_ac.eq_1 SX_ac.eq_1)
 · cases h
   exact ZL cZ3 (ZA S_ac.eq_1 SX_ac.eq_1)
theorem w_dr (aZ0 : List ByteArray) (leftZ0 : Int) {r : Int} (h : M_dr aZ0 leftZ0 = some r) : Ok Tryz.prog 103 [.lst .o 1 (aZ0.map AV.z), .i leftZ0] ((fun r => .i r) r) := by
 refine ok_of_body hmix m103 rfl ?_
 unfold M_dr at h
 simp only [ZC, A103, V103, body_eq]
 obtain ⟨cZ1, h⟩ | ⟨cZ1, h⟩ := cond_s h
 · cases h
   exact ZL cZ1 V103.eq_1
 · obtain ⟨oZ6, hoZ6, h⟩ := bind_s h
   try refine ZF cZ1 ?_
   refine join_rule (o := oZ6) (blk_rule sideR (loop_rule (w_ac aZ0) hoZ6 ?_)) (fun vZ7 hv => ?_) (fun xZ8 hv e τ hne hq => ?_)
   · exact ZK (ZA S_ac.eq_1 SX_ac.eq_1)
   · subst hv
     simp only [] at h
     simp only [ZC, SX_ac, A103R2]
     cases h
     exact ZL cZ1 V103.eq_1
   · subst hv
     simp only [] at h
     obtain ⟨rfl, qZ9⟩ := hq
     cases h
     exact qZ9
theorem w_ds (aZ0 : List TFiber) (leftZ0 : Int) {r : Int} (h : M_ds aZ0 leftZ0 = some r) : Ok Tryz.prog 104 [.lst .o 4 (aZ0.map (e_TFiber .o)), .i leftZ0] ((fun r => .i r) r) := by
 refine ok_of_body hmix m104 rfl ?_
 unfold M_ds at h
 simp only [ZC, A104, V104, body_eq]
 obtain ⟨cZ1, h⟩ | ⟨cZ1, h⟩ := cond_s h
 · cases h
   exact ZL cZ1 V104.eq_1
 · cases h
   exact ZL cZ1 V104.eq_1
theorem w_dt (aZ0 : TNetwork) (leftZ0 : Int) {r : Int} (h : M_dt aZ0 leftZ0 = some r) : Ok Tryz.prog 29 [.agg [.lst .o 1 (aZ0.Nodes.map AV.z), .lst .o 4 (aZ0.Fibers.map (e_TFiber .o))], .i leftZ0] ((fun r => .i r) r) := by
 refine ok_of_body hmix m29 rfl ?_
 unfold M_dt at h
 simp only [ZC, A29, V29, body_eq]
 obtain ⟨rZ1, hrZ1, h⟩ := bind_s h
 refine ZF trivial ?_
 refine ZS trivial (w_dr _ _ hrZ1) ?_
 refine ZG ?_
 obtain ⟨cZ2, h⟩ | ⟨cZ2, h⟩ := cond_s h
 · cases h
   exact ZL cZ2 V29.eq_1
 · obtain ⟨rZ3, hrZ3, h⟩ := bind_s h
   refine ZF cZ2 ?_
   refine ZS cZ2 (w_ds _ _ hrZ3) ?_
   refine ZG ?_
   obtain ⟨cZ4, h⟩ | ⟨cZ4, h⟩ := cond_s h
   · cases h
     exact ZL (ZA cZ2 cZ4) V29.eq_1
   · cases h
     exact ZL (ZA cZ2 cZ4) V29.eq_1
theorem w_du (aZ0 : List Int) (leftZ0 : Int) {r : Int} (h : M_du aZ0 leftZ0 = some r) : Ok Tryz.prog 216 [.lst .o 1 (aZ0.map AV.i), .i leftZ0] ((fun r => .i r) r) := by
 refine ok_of_body hmix m216 rfl ?_
 unfold M_du at h
 simp only [ZC, A216, V216, body_eq]
 obtain ⟨cZ1, h⟩ | ⟨cZ1, h⟩ := cond_s h
 · cases h
   exact ZL cZ1 V216.eq_1
 · cases h
   exact ZL cZ1 V216.eq_1
theorem w_co (aZ0 : TRoute) (leftZ0 : Int) {r : Int} (h : M_co aZ0 leftZ0 = some r) : Ok Tryz.prog 172 [.agg [.i aZ0.Start, .lst .o 1 (aZ0.Fibers.map AV.i)], .i leftZ0] ((fun r => .i r) r) := by
 refine ok_of_body hmix m172 rfl ?_
 unfold M_co at h
 simp only [ZC, A172, V172, body_eq]
 obtain ⟨rZ1, hrZ1, h⟩ := bind_s h
 refine ZF trivial ?_
 refine ZS trivial (w_du _ _ hrZ1) ?_
 refine ZG ?_
 obtain ⟨cZ2, h⟩ | ⟨cZ2, h⟩ := cond_s h
 · cases h
   exact ZL cZ2 V172.eq_1
 · cases h
   exact ZL cZ2 V172.eq_1
theorem w_dv (aZ0 : TService) (leftZ0 : Int) {r : Int} (h : M_dv aZ0 leftZ0 = some r) : Ok Tryz.prog 105 [.agg [.i aZ0.Id, .i aZ0.Class, .i aZ0.Work.Start, .lst .o 1 (aZ0.Work.Fibers.map AV.i), .i aZ0.WorkBlock.First, .i aZ0.WorkBlock.Count, .i aZ0.Spare.Start, .lst .o 1 (aZ0.Spare.Fibers.map AV.i), .i aZ0.SpareBlock.First, .i aZ0.SpareBlock.Count], .i leftZ0] ((fun r => .i r) r) := by
 refine ok_of_body hmix m105 rfl ?_
 unfold M_dv at h
 simp only [ZC, A105, V105, body_eq]
 obtain ⟨rZ1, hrZ1, h⟩ := bind_s h
 refine ZF trivial ?_
 refine ZS trivial (w_co _ _ hrZ1) ?_
 refine ZG ?_
 obtain ⟨cZ2, h⟩ | ⟨cZ2, h⟩ := cond_s h
 · cases h
   exact ZL cZ2 V105.eq_1
 · obtain ⟨rZ3, hrZ3, h⟩ := bind_s h
   refine ZF cZ2 ?_
   refine ZS cZ2 (w_co _ _ hrZ3) ?_
   refine ZG ?_
   obtain ⟨cZ4, h⟩ | ⟨cZ4, h⟩ := cond_s h
   · cases h
     exact ZL (ZA cZ2 cZ4) V105.eq_1
   · cases h
     exact ZL (ZA cZ2 cZ4) V105.eq_1
def S_ad (aZ0 : List TService) (v : Int × Int) : St := ⟨[(0, .lst .o 10 (aZ0.map (e_TService .o))), (1, .i v.1), (5, .i v.2)], []⟩
def SX_ad (v : Int) : St := ⟨[(1, .i v)], []⟩
theorem w_ad (aZ0 : List TService) (sZ2 : Int × Int) (o : (Int × Int) ⊕ (Int ⊕ Int)) (h : M_ad aZ0 sZ2 = some o) : AWP (OkS Tryz.prog) A30L1 (qL [0, 1, 5] [] (S_ad aZ0) (qS (qX 0 [1] [] (SX_ad)) (qR V30 (fun r => .i r))) o) (S_ad aZ0 sZ2) := by
 unfold M_ad at h
 simp only [ZC, S_ad, A30L1]
 obtain ⟨cZ3, h⟩ | ⟨cZ3, h⟩ := cond_s h
 · obtain ⟨yZ4, hyZ4, h⟩ := bind_s h
   obtain ⟨hyZ4a, hyZ4b⟩ := geti_s hyZ4
   obtain ⟨rZ5, hrZ5, h⟩ := bind_s h
   refine ZF (ZA cZ3 (ZA hyZ4a hyZ4b)) ?_
   refine ZS (ZA cZ3 (ZA hyZ4a hyZ4b)) (w_dv _ _ hrZ5) ?_
   refine ZG ?_
   obtain ⟨cZ6, h⟩ | ⟨cZ6, h⟩ := cond_s h
   · cases h
     exact ZL (ZA cZ3 (ZA hyZ4a (ZA hyZ4b cZ6))) V30.eq_1
   · cases h
     exact ZL (ZA cZ3 (ZA hyZ4a (ZA hyZ4b cZ6))) (ZA S_ad.eq_1 SX_ad.eq_1)
 · cases h
   exact ZL cZ3 (ZA S_ad.eq_1 SX_ad.eq_1)
theorem w_dw (aZ0 : List TService) (leftZ0 : Int) {r : Int} (h : M_dw aZ0 leftZ0 = some r) : Ok Tryz.prog 30 [.lst .o 10 (aZ0.map (e_TService .o)), .i leftZ0] ((fun r => .i r) r) := by
 refine ok_of_body hmix m30 rfl ?_
 unfold M_dw at h
 simp only [ZC, A30, V30, body_eq]
 obtain ⟨cZ1, h⟩ | ⟨cZ1, h⟩ := cond_s h
 · cases h
   exact ZL cZ1 V30.eq_1
 · obtain ⟨oZ7, hoZ7, h⟩ := bind_s h
   try refine ZF cZ1 ?_
   refine join_rule (o := oZ7) (blk_rule sideR (loop_rule (w_ad aZ0) hoZ7 ?_)) (fun vZ8 hv => ?_) (fun xZ9 hv e τ hne hq => ?_)
   · exact ZK (ZA S_ad.eq_1 SX_ad.eq_1)
   · subst hv
     simp only [] at h
     simp only [ZC, SX_ad, A30R2]
     cases h
     exact ZL cZ1 V30.eq_1
   · subst hv
     simp only [] at h
     obtain ⟨rfl, qZ10⟩ := hq
     cases h
     exact qZ10
def S_ae (aZ0 : List ByteArray) (v : Int × List ByteArray) : St := ⟨[(0, .lst .o 1 (aZ0.map AV.z)), (3, .sl 3 0 v.2.length), (4, .i v.1)], [(3, .arr 1 (v.2.map AV.z))]⟩
def SX_ae (v : List ByteArray) : St := ⟨[(3, .sl 3 0 v.length)], [(3, .arr 1 (v.map AV.z))]⟩
theorem w_ae (aZ0 : List ByteArray) (sZ4 : Int × List ByteArray) (o : (Int × List ByteArray) ⊕ (List ByteArray)) (h : M_ae aZ0 sZ4 = some o) : AWP (OkS Tryz.prog) A110L1 (qL [0, 3, 4] [3] (S_ae aZ0) (qX 0 [3] [3] (SX_ae)) o) (S_ae aZ0 sZ4) := by
 unfold M_ae at h
 simp only [ZC, S_ae, A110L1]
 obtain ⟨cZ5, h⟩ | ⟨cZ5, h⟩ := cond_s h
 · obtain ⟨yZ6, hyZ6, h⟩ := bind_s h
   obtain ⟨hyZ6a, hyZ6b⟩ := geti_s hyZ6
   obtain ⟨kZ7, hkZ7, h⟩ := bind_s h
   obtain ⟨hkZ7a, hkZ7b⟩ := grd_s hkZ7
   obtain ⟨yZ8, hyZ8, h⟩ := bind_s h
   obtain ⟨lZ9, hlZ9, h⟩ := bnd_s h
   have eZ10 : (sZ4.2.map AV.z).set (Int.toNat sZ4.1) (.z yZ6) = lZ9.map AV.z := by rw [← hlZ9, List.map_set]
   cases h
   exact ZL (ZA cZ5 (ZA hyZ6a (ZA hyZ6b (ZA hkZ7a (ZA hkZ7b (ZA hyZ8 eZ10)))))) (ZA S_ae.eq_1 (ZA SX_ae.eq_1 hlZ9.symm))
 · cases h
   exact ZL cZ5 (ZA S_ae.eq_1 SX_ae.eq_1)
theorem w_dx (aZ0 : List ByteArray) {r : List ByteArray} (h : M_dx aZ0 = some r) : Ok Tryz.prog 110 [.lst .o 1 (aZ0.map AV.z)] ((fun r => .lst .u 1 (r.map AV.z)) r) := by
 refine ok_of_body hmix m110 rfl ?_
 unfold M_dx at h
 simp only [ZC, A110, V110, body_eq]
 obtain ⟨uZ1, huZ1, h⟩ := bind_s h
 obtain ⟨huZ11, huZ12, huZ13, huZ14⟩ := grd_s huZ1
 obtain ⟨lZ2, hlZ2, h⟩ := bnd_s h
 have eZ3 : List.replicate (Int.toNat (aZ0.length : Int)) (.z (⟨#[]⟩ : ByteArray) : AV) = lZ2.map AV.z := by rw [← hlZ2, List.map_replicate]
 obtain ⟨oZ11, hoZ11, h⟩ := bind_s h
 try refine ZF (ZA huZ11 (ZA huZ12 (ZA huZ13 (ZA huZ14 eZ3)))) ?_
 refine join_rule0 (blk_rule0 (loop_rule (w_ae aZ0) hoZ11 ?_)) ?_
 · exact ZK (ZA S_ae.eq_1 (ZA SX_ae.eq_1 (ZA hlZ2.symm @Zr)))
 · simp only [ZC, SX_ae, A110R2]
   cases h
   exact ZL (ZA huZ11 (ZA huZ12 (ZA huZ13 (ZA huZ14 eZ3)))) V110.eq_1
theorem w_dl (aZ0 : TFiber) {r : TFiber} (h : M_dl aZ0 = some r) : Ok Tryz.prog 174 [.agg [.i aZ0.A, .i aZ0.B, .i aZ0.Length, .i aZ0.Risk]] ((fun r => .agg [.i r.A, .i r.B, .i r.Length, .i r.Risk]) r) := by
 refine ok_of_body hmix m174 rfl ?_
 unfold M_dl at h
 simp only [ZC, A174, V174, body_eq]
 cases h
 exact ZL trivial V174.eq_1
def S_af (aZ0 : List TFiber) (v : Int × List TFiber) : St := ⟨[(0, .lst .o 4 (aZ0.map (e_TFiber .o))), (3, .sl 3 0 v.2.length), (4, .i v.1)], [(3, .arr 4 (v.2.map (e_TFiber .u)))]⟩
def SX_af (v : List TFiber) : St := ⟨[(3, .sl 3 0 v.length)], [(3, .arr 4 (v.map (e_TFiber .u)))]⟩
theorem w_af (aZ0 : List TFiber) (sZ4 : Int × List TFiber) (o : (Int × List TFiber) ⊕ (List TFiber)) (h : M_af aZ0 sZ4 = some o) : AWP (OkS Tryz.prog) A111L1 (qL [0, 3, 4] [3] (S_af aZ0) (qX 0 [3] [3] (SX_af)) o) (S_af aZ0 sZ4) := by
 unfold M_af at h
 simp only [ZC, S_af, A111L1]
 obtain ⟨cZ5, h⟩ | ⟨cZ5, h⟩ := cond_s h
 · obtain ⟨yZ6, hyZ6, h⟩ := bind_s h
   obtain ⟨hyZ6a, hyZ6b⟩ := geti_s hyZ6
   obtain ⟨rZ7, hrZ7, h⟩ := bind_s h
   refine ZF (ZA cZ5 (ZA hyZ6a hyZ6b)) ?_
   refine ZU (ZA cZ5 (ZA hyZ6a hyZ6b)) (w_dl _ hrZ7) ?_
   refine ZG ?_
   obtain ⟨kZ8, hkZ8, h⟩ := bind_s h
   obtain ⟨hkZ8a, hkZ8b⟩ := grd_s hkZ8
   obtain ⟨yZ9, hyZ9, h⟩ := bind_s h
   obtain ⟨lZ10, hlZ10, h⟩ := bnd_s h
   have eZ11 : (sZ4.2.map (e_TFiber .u)).set (Int.toNat sZ4.1) (.agg [.i rZ7.A, .i rZ7.B, .i rZ7.Length, .i rZ7.Risk]) = lZ10.map (e_TFiber .u) := by rw [← hlZ10, List.map_set]; rfl
   cases h
   exact ZL (ZA cZ5 (ZA hyZ6a (ZA hyZ6b (ZA hkZ8a (ZA hkZ8b (ZA hyZ9 eZ11)))))) (ZA S_af.eq_1 (ZA SX_af.eq_1 hlZ10.symm))
 · cases h
   exact ZL cZ5 (ZA S_af.eq_1 SX_af.eq_1)
theorem w_dy (aZ0 : List TFiber) {r : List TFiber} (h : M_dy aZ0 = some r) : Ok Tryz.prog 111 [.lst .o 4 (aZ0.map (e_TFiber .o))] ((fun r => .lst .u 4 (r.map (e_TFiber .u))) r) := by
 refine ok_of_body hmix m111 rfl ?_
 unfold M_dy at h
 simp only [ZC, A111, V111, body_eq]
 obtain ⟨uZ1, huZ1, h⟩ := bind_s h
 obtain ⟨huZ11, huZ12, huZ13, huZ14⟩ := grd_s huZ1
 obtain ⟨lZ2, hlZ2, h⟩ := bnd_s h
 have eZ3 : List.replicate (Int.toNat (aZ0.length : Int)) (.agg [.i 0, .i 0, .i 0, .i 0] : AV) = lZ2.map (e_TFiber .u) := by rw [← hlZ2, List.map_replicate]; rfl
 obtain ⟨oZ12, hoZ12, h⟩ := bind_s h
 try refine ZF (ZA huZ11 (ZA huZ12 (ZA huZ13 (ZA huZ14 eZ3)))) ?_
 refine join_rule0 (blk_rule0 (loop_rule (w_af aZ0) hoZ12 ?_)) ?_
 · exact ZK (ZA S_af.eq_1 (ZA SX_af.eq_1 (ZA hlZ2.symm @Zr)))
 · simp only [ZC, SX_af, A111R2]
   cases h
   exact ZL (ZA huZ11 (ZA huZ12 (ZA huZ13 (ZA huZ14 eZ3)))) V111.eq_1
theorem w_ca (aZ0 : TNetwork) {r : TNetwork} (h : M_ca aZ0 = some r) : Ok Tryz.prog 32 [.agg [.lst .o 1 (aZ0.Nodes.map AV.z), .lst .o 4 (aZ0.Fibers.map (e_TFiber .o))]] ((fun r => .agg [.lst .u 1 (r.Nodes.map AV.z), .lst .u 4 (r.Fibers.map (e_TFiber .u))]) r) := by
 refine ok_of_body hmix m32 rfl ?_
 unfold M_ca at h
 simp only [ZC, A32, V32, body_eq]
 obtain ⟨rZ1, hrZ1, h⟩ := bind_s h
 refine ZF trivial ?_
 refine ZU trivial (w_dx _ hrZ1) ?_
 refine ZG ?_
 obtain ⟨rZ2, hrZ2, h⟩ := bind_s h
 refine ZF trivial ?_
 refine ZU trivial (w_dy _ hrZ2) ?_
 refine ZG ?_
 cases h
 exact ZL trivial V32.eq_1
def S_ag (aZ0 : List Int) (v : Int × List Int) : St := ⟨[(0, .lst .o 1 (aZ0.map AV.i)), (3, .sl 3 0 v.2.length), (4, .i v.1)], [(3, .arr 1 (v.2.map AV.i))]⟩
def SX_ag (v : List Int) : St := ⟨[(3, .sl 3 0 v.length)], [(3, .arr 1 (v.map AV.i))]⟩
theorem w_ag (aZ0 : List Int) (sZ4 : Int × List Int) (o : (Int × List Int) ⊕ (List Int)) (h : M_ag aZ0 sZ4 = some o) : AWP (OkS Tryz.prog) A34L1 (qL [0, 3, 4] [3] (S_ag aZ0) (qX 0 [3] [3] (SX_ag)) o) (S_ag aZ0 sZ4) := by
 unfold M_ag at h
 simp only [ZC, S_ag, A34L1]
 obtain ⟨cZ5, h⟩ | ⟨cZ5, h⟩ := cond_s h
 · obtain ⟨yZ6, hyZ6, h⟩ := bind_s h
   obtain ⟨hyZ6a, hyZ6b⟩ := geti_s hyZ6
   obtain ⟨kZ7, hkZ7, h⟩ := bind_s h
   obtain ⟨hkZ7a, hkZ7b⟩ := grd_s hkZ7
   obtain ⟨yZ8, hyZ8, h⟩ := bind_s h
   obtain ⟨lZ9, hlZ9, h⟩ := bnd_s h
   have eZ10 : (sZ4.2.map AV.i).set (Int.toNat sZ4.1) (.i yZ6) = lZ9.map AV.i := by rw [← hlZ9, List.map_set]
   cases h
   exact ZL (ZA cZ5 (ZA hyZ6a (ZA hyZ6b (ZA hkZ7a (ZA hkZ7b (ZA hyZ8 eZ10)))))) (ZA S_ag.eq_1 (ZA SX_ag.eq_1 hlZ9.symm))
 · cases h
   exact ZL cZ5 (ZA S_ag.eq_1 SX_ag.eq_1)
theorem w_l (aZ0 : List Int) {r : List Int} (h : M_l aZ0 = some r) : Ok Tryz.prog 34 [.lst .o 1 (aZ0.map AV.i)] ((fun r => .lst .u 1 (r.map AV.i)) r) := by
 refine ok_of_body hmix m34 rfl ?_
 unfold M_l at h
 simp only [ZC, A34, V34, body_eq]
 obtain ⟨uZ1, huZ1, h⟩ := bind_s h
 obtain ⟨huZ11, huZ12, huZ13, huZ14⟩ := grd_s huZ1
 obtain ⟨lZ2, hlZ2, h⟩ := bnd_s h
 have eZ3 : List.replicate (Int.toNat (aZ0.length : Int)) (.i 0 : AV) = lZ2.map AV.i := by rw [← hlZ2, List.map_replicate]
 obtain ⟨oZ11, hoZ11, h⟩ := bind_s h
 try refine ZF (ZA huZ11 (ZA huZ12 (ZA huZ13 (ZA huZ14 eZ3)))) ?_
 refine join_rule0 (blk_rule0 (loop_rule (w_ag aZ0) hoZ11 ?_)) ?_
 · exact ZK (ZA S_ag.eq_1 (ZA SX_ag.eq_1 (ZA hlZ2.symm @Zr)))
 · simp only [ZC, SX_ag, A34R2]
   cases h
   exact ZL (ZA huZ11 (ZA huZ12 (ZA huZ13 (ZA huZ14 eZ3)))) V34.eq_1
theorem w_cp (aZ0 : TRoute) {r : TRoute} (h : M_cp aZ0 = some r) : Ok Tryz.prog 175 [.agg [.i aZ0.Start, .lst .o 1 (aZ0.Fibers.map AV.i)]] ((fun r => .agg [.i r.Start, .lst .u 1 (r.Fibers.map AV.i)]) r) := by
 refine ok_of_body hmix m175 rfl ?_
 unfold M_cp at h
 simp only [ZC, A175, V175, body_eq]
 obtain ⟨rZ1, hrZ1, h⟩ := bind_s h
 refine ZF trivial ?_
 refine ZU trivial (w_l _ hrZ1) ?_
 refine ZG ?_
 cases h
 exact ZL trivial V175.eq_1
theorem w_cq (aZ0 : TBlock) {r : TBlock} (h : M_cq aZ0 = some r) : Ok Tryz.prog 176 [.agg [.i aZ0.First, .i aZ0.Count]] ((fun r => .agg [.i r.First, .i r.Count]) r) := by
 refine ok_of_body hmix m176 rfl ?_
 unfold M_cq at h
 simp only [ZC, A176, V176, body_eq]
 cases h
 exact ZL trivial V176.eq_1
theorem w_dm (aZ0 : TService) {r : TService} (h : M_dm aZ0 = some r) : Ok Tryz.prog 112 [.agg [.i aZ0.Id, .i aZ0.Class, .i aZ0.Work.Start, .lst .o 1 (aZ0.Work.Fibers.map AV.i), .i aZ0.WorkBlock.First, .i aZ0.WorkBlock.Count, .i aZ0.Spare.Start, .lst .o 1 (aZ0.Spare.Fibers.map AV.i), .i aZ0.SpareBlock.First, .i aZ0.SpareBlock.Count]] ((fun r => .agg [.i r.Id, .i r.Class, .i r.Work.Start, .lst .u 1 (r.Work.Fibers.map AV.i), .i r.WorkBlock.First, .i r.WorkBlock.Count, .i r.Spare.Start, .lst .u 1 (r.Spare.Fibers.map AV.i), .i r.SpareBlock.First, .i r.SpareBlock.Count]) r) := by
 refine ok_of_body hmix m112 rfl ?_
 unfold M_dm at h
 simp only [ZC, A112, V112, body_eq]
 obtain ⟨rZ1, hrZ1, h⟩ := bind_s h
 refine ZF trivial ?_
 refine ZU trivial (w_cp _ hrZ1) ?_
 refine ZG ?_
 obtain ⟨rZ2, hrZ2, h⟩ := bind_s h
 refine ZF trivial ?_
 refine ZU trivial (w_cq _ hrZ2) ?_
 refine ZG ?_
 obtain ⟨rZ3, hrZ3, h⟩ := bind_s h
 refine ZF trivial ?_
 refine ZU trivial (w_cp _ hrZ3) ?_
 refine ZG ?_
 obtain ⟨rZ4, hrZ4, h⟩ := bind_s h
 refine ZF trivial ?_
 refine ZU trivial (w_cq _ hrZ4) ?_
 refine ZG ?_
 cases h
 exact ZL trivial V112.eq_1
def S_ah (aZ0 : List TService) (v : Int × List TService) : St := ⟨[(0, .lst .o 10 (aZ0.map (e_TService .o))), (3, .sl 3 0 v.2.length), (4, .i v.1)], [(3, .arr 10 (v.2.map (e_TService .u)))]⟩
def SX_ah (v : List TService) : St := ⟨[(3, .sl 3 0 v.length)], [(3, .arr 10 (v.map (e_TService .u)))]⟩
theorem w_ah (aZ0 : List TService) (sZ4 : Int × List TService) (o : (Int × List TService) ⊕ (List TService)) (h : M_ah aZ0 sZ4 = some o) : AWP (OkS Tryz.prog) A33L1 (qL [0, 3, 4] [3] (S_ah aZ0) (qX 0 [3] [3] (SX_ah)) o) (S_ah aZ0 sZ4) := by
 unfold M_ah at h
 simp only [ZC, S_ah, A33L1]
 obtain ⟨cZ5, h⟩ | ⟨cZ5, h⟩ := cond_s h
 · obtain ⟨yZ6, hyZ6, h⟩ := bind_s h
   obtain ⟨hyZ6a, hyZ6b⟩ := geti_s hyZ6
   obtain ⟨rZ7, hrZ7, h⟩ := bind_s h
   refine ZF (ZA cZ5 (ZA hyZ6a hyZ6b)) ?_
   refine ZU (ZA cZ5 (ZA hyZ6a hyZ6b)) (w_dm _ hrZ7) ?_
   refine ZG ?_
   obtain ⟨kZ8, hkZ8, h⟩ := bind_s h
   obtain ⟨hkZ8a, hkZ8b⟩ := grd_s hkZ8
   obtain ⟨yZ9, hyZ9, h⟩ := bind_s h
   obtain ⟨lZ10, hlZ10, h⟩ := bnd_s h
   have eZ11 : (sZ4.2.map (e_TService .u)).set (Int.toNat sZ4.1) (.agg [.i rZ7.Id, .i rZ7.Class, .i rZ7.Work.Start, .lst .u 1 (rZ7.Work.Fibers.map AV.i), .i rZ7.WorkBlock.First, .i rZ7.WorkBlock.Count, .i rZ7.Spare.Start, .lst .u 1 (rZ7.Spare.Fibers.map AV.i), .i rZ7.SpareBlock.First, .i rZ7.SpareBlock.Count]) = lZ10.map (e_TService .u) := by rw [← hlZ10, List.map_set]; rfl
   cases h
   exact ZL (ZA cZ5 (ZA hyZ6a (ZA hyZ6b (ZA hkZ8a (ZA hkZ8b (ZA hyZ9 eZ11)))))) (ZA S_ah.eq_1 (ZA SX_ah.eq_1 hlZ10.symm))
 · cases h
   exact ZL cZ5 (ZA S_ah.eq_1 SX_ah.eq_1)
theorem w_cb (aZ0 : List TService) {r : List TService} (h : M_cb aZ0 = some r) : Ok Tryz.prog 33 [.lst .o 10 (aZ0.map (e_TService .o))] ((fun r => .lst .u 10 (r.map (e_TService .u))) r) := by
 refine ok_of_body hmix m33 rfl ?_
 unfold M_cb at h
 simp only [ZC, A33, V33, body_eq]
 obtain ⟨uZ1, huZ1, h⟩ := bind_s h
 obtain ⟨huZ11, huZ12, huZ13, huZ14⟩ := grd_s huZ1
 obtain ⟨lZ2, hlZ2, h⟩ := bnd_s h
 have eZ3 : List.replicate (Int.toNat (aZ0.length : Int)) (.agg [.i 0, .i 0, .i 0, .lst .u 1 [], .i 0, .i 0, .i 0, .lst .u 1 [], .i 0, .i 0] : AV) = lZ2.map (e_TService .u) := by rw [← hlZ2, List.map_replicate]; rfl
 obtain ⟨oZ12, hoZ12, h⟩ := bind_s h
 try refine ZF (ZA huZ11 (ZA huZ12 (ZA huZ13 (ZA huZ14 eZ3)))) ?_
 refine join_rule0 (blk_rule0 (loop_rule (w_ah aZ0) hoZ12 ?_)) ?_
 · exact ZK (ZA S_ah.eq_1 (ZA SX_ah.eq_1 (ZA hlZ2.symm @Zr)))
 · simp only [ZC, SX_ah, A33R2]
   cases h
   exact ZL (ZA huZ11 (ZA huZ12 (ZA huZ13 (ZA huZ14 eZ3)))) V33.eq_1
theorem w_a (xZ0 : Int) (aZ0 : Int) (bZ0 : Int) {r : Bool} (h : M_a xZ0 aZ0 bZ0 = some r) : Ok Tryz.prog 173 [.i xZ0, .i aZ0, .i bZ0] ((fun r => .b r) r) := by
 refine ok_of_body hmix m173 rfl ?_
 unfold M_a at h
 simp only [ZC, A173, V173, body_eq]
 obtain ⟨cZ1, h⟩ | ⟨cZ1, h⟩ := cond_s h
 · cases h
   exact ZL cZ1 V173.eq_1
 · cases h
   exact ZL cZ1 V173.eq_1
theorem w_dz (bZ0 : Int) {r : Bool} (h : M_dz bZ0 = some r) : Ok Tryz.prog 226 [.sc (.int .u8 bZ0)] ((fun r => .b r) r) := by
 refine ok_of_body hmix m226 rfl ?_
 unfold M_dz at h
 simp only [ZC, A226, V226, body_eq]
 obtain ⟨cZ1, h⟩ | ⟨cZ1, h⟩ := cond_s h
 · obtain ⟨cZ2, h⟩ | ⟨cZ2, h⟩ := cond_s h
   · cases h
     exact ZL (ZA cZ1 cZ2) V226.eq_1
   · obtain ⟨cZ3, h⟩ | ⟨cZ3, h⟩ := cond_s h
     · cases h
       exact ZL (ZA cZ1 (ZA cZ2 cZ3)) V226.eq_1
     · cases h
       exact ZL (ZA cZ1 (ZA cZ2 cZ3)) V226.eq_1
 · obtain ⟨cZ4, h⟩ | ⟨cZ4, h⟩ := cond_s h
   · cases h
     exact ZL (ZA cZ1 cZ4) V226.eq_1
   · cases h
     exact ZL (ZA cZ1 cZ4) V226.eq_1
def S_ai (sZ0 : ByteArray) (v : Int) : St := ⟨[(0, .z sZ0), (3, .i v)], []⟩
def SX_ai (v : Unit) : St := ⟨[], []⟩
theorem w_ai (sZ0 : ByteArray) (sZ7 : Int) (o : Int ⊕ (Unit ⊕ Bool)) (h : M_ai sZ0 sZ7 = some o) : AWP (OkS Tryz.prog) A194L2 (qL [0, 3] [] (S_ai sZ0) (qS (qX 0 [] [] (SX_ai)) (qR V194 (fun r => .b r))) o) (S_ai sZ0 sZ7) := by
 unfold M_ai at h
 simp only [ZC, S_ai, A194L2]
 obtain ⟨cZ8, h⟩ | ⟨cZ8, h⟩ := cond_s h
 · obtain ⟨yZ9, hyZ9, h⟩ := bind_s h
   obtain ⟨hyZ9a, hyZ9b⟩ := getz_s hyZ9
   obtain ⟨rZ10, hrZ10, h⟩ := bind_s h
   refine ZF (ZA cZ8 (ZA hyZ9a hyZ9b)) ?_
   refine ZS (ZA cZ8 (ZA hyZ9a hyZ9b)) (w_dz _ hrZ10) ?_
   refine ZG ?_
   obtain ⟨cZ11, h⟩ | ⟨cZ11, h⟩ := cond_s h
   · cases h
     exact ZL (ZA cZ8 (ZA hyZ9a (ZA hyZ9b cZ11))) V194.eq_1
   · cases h
     exact ZL (ZA cZ8 (ZA hyZ9a (ZA hyZ9b cZ11))) (ZA S_ai.eq_1 SX_ai.eq_1)
 · cases h
   exact ZL cZ8 (ZA S_ai.eq_1 SX_ai.eq_1)
theorem w_ea (sZ0 : ByteArray) {r : Bool} (h : M_ea sZ0 = some r) : Ok Tryz.prog 194 [.z sZ0] ((fun r => .b r) r) := by
 refine ok_of_body hmix m194 rfl ?_
 unfold M_ea at h
 simp only [ZC, A194, V194, body_eq]
 obtain ⟨oZ5, hoZ5, h⟩ := bind_s h
 try refine ZF trivial ?_
 refine join_rule0 (sh := (fun v => ⟨[(0, .z sZ0), (17, .b v)], []⟩)) (s := oZ5) ?_ ?_
 · replace h := hoZ5
   obtain ⟨rZ1, hrZ1, h⟩ := bind_s h
   refine ZF trivial ?_
   refine ZS trivial (w_a _ _ _ hrZ1) ?_
   refine ZG ?_
   obtain ⟨cZ2, h⟩ | ⟨cZ2, h⟩ := cond_s h
   · cases h
     exact ZL cZ2 trivial
   · obtain ⟨yZ3, hyZ3, h⟩ := bind_s h
     obtain ⟨hyZ3a, hyZ3b⟩ := getz_s hyZ3
     obtain ⟨cZ4, h⟩ | ⟨cZ4, h⟩ := cond_s h
     · cases h
       exact ZL (ZA cZ2 (ZA hyZ3a (ZA hyZ3b cZ4))) trivial
     · cases h
       exact ZL (ZA cZ2 (ZA hyZ3a (ZA hyZ3b cZ4))) trivial
 · simp only [ZC, A194R1]
   obtain ⟨cZ6, h⟩ | ⟨cZ6, h⟩ := cond_s h
   · cases h
     exact ZL cZ6 V194.eq_1
   · obtain ⟨oZ12, hoZ12, h⟩ := bind_s h
     try refine ZF cZ6 ?_
     refine join_rule (o := oZ12) (blk_rule sideR (loop_rule (w_ai sZ0) hoZ12 ?_)) (fun vZ13 hv => ?_) (fun xZ14 hv e τ hne hq => ?_)
     · exact ZK (ZA S_ai.eq_1 SX_ai.eq_1)
     · subst hv
       simp only [] at h
       simp only [ZC, SX_ai, A194R3]
       cases h
       exact ZL cZ6 V194.eq_1
     · subst hv
       simp only [] at h
       obtain ⟨rfl, qZ15⟩ := hq
       cases h
       exact qZ15
def S_aj (listZ0 : List ByteArray) (nameZ0 : ByteArray) (v : Int) : St := ⟨[(0, .lst .o 1 (listZ0.map AV.z)), (1, .z nameZ0), (5, .i v)], []⟩
def SX_aj (v : Unit) : St := ⟨[], []⟩
theorem w_aj (listZ0 : List ByteArray) (nameZ0 : ByteArray) (sZ1 : Int) (o : Int ⊕ (Unit ⊕ Int)) (h : M_aj listZ0 nameZ0 sZ1 = some o) : AWP (OkS Tryz.prog) A195L1 (qL [0, 1, 5] [] (S_aj listZ0 nameZ0) (qS (qX 0 [] [] (SX_aj)) (qR V195 (fun r => .i r))) o) (S_aj listZ0 nameZ0 sZ1) := by
 unfold M_aj at h
 simp only [ZC, S_aj, A195L1]
 obtain ⟨cZ2, h⟩ | ⟨cZ2, h⟩ := cond_s h
 · obtain ⟨yZ3, hyZ3, h⟩ := bind_s h
   obtain ⟨hyZ3a, hyZ3b⟩ := geti_s hyZ3
   obtain ⟨cZ4, h⟩ | ⟨cZ4, h⟩ := cond_s h
   · cases h
     exact ZL (ZA cZ2 (ZA hyZ3a (ZA hyZ3b cZ4))) V195.eq_1
   · cases h
     exact ZL (ZA cZ2 (ZA hyZ3a (ZA hyZ3b cZ4))) (ZA S_aj.eq_1 SX_aj.eq_1)
 · cases h
   exact ZL cZ2 (ZA S_aj.eq_1 SX_aj.eq_1)
theorem w_eb (listZ0 : List ByteArray) (nameZ0 : ByteArray) {r : Int} (h : M_eb listZ0 nameZ0 = some r) : Ok Tryz.prog 195 [.lst .o 1 (listZ0.map AV.z), .z nameZ0] ((fun r => .i r) r) := by
 refine ok_of_body hmix m195 rfl ?_
 unfold M_eb at h
 simp only [ZC, A195, V195, body_eq]
 obtain ⟨oZ5, hoZ5, h⟩ := bind_s h
 try refine ZF trivial ?_
 refine join_rule (o := oZ5) (blk_rule sideR (loop_rule (w_aj listZ0 nameZ0) hoZ5 ?_)) (fun vZ6 hv => ?_) (fun xZ7 hv e τ hne hq => ?_)
 · exact ZK (ZA S_aj.eq_1 SX_aj.eq_1)
 · subst hv
   simp only [] at h
   simp only [ZC, SX_aj, A195R2]
   cases h
   exact ZL trivial V195.eq_1
 · subst hv
   simp only [] at h
   obtain ⟨rfl, qZ8⟩ := hq
   cases h
   exact qZ8
theorem w_ec (fZ0 : TFiber) (nodesZ0 : Int) {r : Bool} (h : M_ec fZ0 nodesZ0 = some r) : Ok Tryz.prog 196 [.agg [.i fZ0.A, .i fZ0.B, .i fZ0.Length, .i fZ0.Risk], .i nodesZ0] ((fun r => .b r) r) := by
 refine ok_of_body hmix m196 rfl ?_
 unfold M_ec at h
 simp only [ZC, A196, V196, body_eq]
 obtain ⟨rZ1, hrZ1, h⟩ := bind_s h
 refine ZF trivial ?_
 refine ZS trivial (w_a _ _ _ hrZ1) ?_
 refine ZG ?_
 obtain ⟨cZ2, h⟩ | ⟨cZ2, h⟩ := cond_s h
 · obtain ⟨rZ3, hrZ3, h⟩ := bind_s h
   refine ZF cZ2 ?_
   refine ZS cZ2 (w_a _ _ _ hrZ3) ?_
   refine ZG ?_
   obtain ⟨cZ4, h⟩ | ⟨cZ4, h⟩ := cond_s h
   · obtain ⟨rZ5, hrZ5, h⟩ := bind_s h
     refine ZF (ZA cZ2 cZ4) ?_
     refine ZS (ZA cZ2 cZ4) (w_a _ _ _ hrZ5) ?_
     refine ZG ?_
     obtain ⟨cZ6, h⟩ | ⟨cZ6, h⟩ := cond_s h
     · obtain ⟨rZ7, hrZ7, h⟩ := bind_s h
       refine ZF (ZA cZ2 (ZA cZ4 cZ6)) ?_
       refine ZS (ZA cZ2 (ZA cZ4 cZ6)) (w_a _ _ _ hrZ7) ?_
       refine ZG ?_
       cases h
       exact ZL (ZA cZ2 (ZA cZ4 cZ6)) V196.eq_1
     · cases h
       exact ZL (ZA cZ2 (ZA cZ4 cZ6)) V196.eq_1
   · cases h
     exact ZL (ZA cZ2 cZ4) V196.eq_1
 · cases h
   exact ZL cZ2 V196.eq_1
theorem w_ed (fZ0 : TFiber) (gZ0 : TFiber) {r : Int} (h : M_ed fZ0 gZ0 = some r) : Ok Tryz.prog 197 [.agg [.i fZ0.A, .i fZ0.B, .i fZ0.Length, .i fZ0.Risk], .agg [.i gZ0.A, .i gZ0.B, .i gZ0.Length, .i gZ0.Risk]] ((fun r => .i r) r) := by
 refine ok_of_body hmix m197 rfl ?_
 unfold M_ed at h
 simp only [ZC, A197, V197, body_eq]
 obtain ⟨cZ1, h⟩ | ⟨cZ1, h⟩ := cond_s h
 · cases h
   exact ZL cZ1 V197.eq_1
 · obtain ⟨cZ2, h⟩ | ⟨cZ2, h⟩ := cond_s h
   · cases h
     exact ZL (ZA cZ1 cZ2) V197.eq_1
   · obtain ⟨cZ3, h⟩ | ⟨cZ3, h⟩ := cond_s h
     · cases h
       exact ZL (ZA cZ1 (ZA cZ2 cZ3)) V197.eq_1
     · cases h
       exact ZL (ZA cZ1 (ZA cZ2 cZ3)) V197.eq_1
def S_ak (nZ0 : TNetwork) (v : Int) : St := ⟨[(1, .pt 1 0 0), (3, .i v)], [(1, .var (.agg [.lst .o 1 (nZ0.Nodes.map AV.z), .lst .o 4 (nZ0.Fibers.map (e_TFiber .o))]))]⟩
def SX_ak (nZ0 : TNetwork) (v : Unit) : St := ⟨[(1, .pt 1 0 0)], [(1, .var (.agg [.lst .o 1 (nZ0.Nodes.map AV.z), .lst .o 4 (nZ0.Fibers.map (e_TFiber .o))]))]⟩
theorem w_ak (nZ0 : TNetwork) (sZ5 : Int) (o : Int ⊕ (Unit ⊕ Bool)) (h : M_ak nZ0 sZ5 = some o) : AWP (OkS Tryz.prog) A131L3 (qL [1, 3] [1] (S_ak nZ0) (qS (qX 0 [1] [1] (SX_ak nZ0)) (qR V131 (fun r => .b r))) o) (S_ak nZ0 sZ5) := by
 unfold M_ak at h
 simp only [ZC, S_ak, A131L3]
 obtain ⟨cZ6, h⟩ | ⟨cZ6, h⟩ := cond_s h
 · obtain ⟨oZ11, hoZ11, h⟩ := bind_s h
   try refine ZF cZ6 ?_
   refine join_rule0 (sh := (fun v => ⟨[(1, .pt 1 0 0), (3, .i sZ5), (41, .b v)], [(1, .var (.agg [.lst .o 1 (nZ0.Nodes.map AV.z), .lst .o 4 (nZ0.Fibers.map (e_TFiber .o))]))]⟩)) (s := oZ11) ?_ ?_
   · replace h := hoZ11
     obtain ⟨yZ7, hyZ7, h⟩ := bind_s h
     obtain ⟨hyZ7a, hyZ7b⟩ := geti_s hyZ7
     obtain ⟨rZ8, hrZ8, h⟩ := bind_s h
     refine ZF (ZA cZ6 (ZA hyZ7a hyZ7b)) ?_
     refine ZS (ZA cZ6 (ZA hyZ7a hyZ7b)) (w_ea _ hrZ8) ?_
     refine ZG ?_
     obtain ⟨cZ9, h⟩ | ⟨cZ9, h⟩ := cond_s h
     · cases h
       exact ZL (ZA cZ6 (ZA hyZ7a (ZA hyZ7b cZ9))) trivial
     · obtain ⟨rZ10, hrZ10, h⟩ := bind_s h
       refine ZF (ZA cZ6 (ZA hyZ7a (ZA hyZ7b cZ9))) ?_
       refine ZS (ZA cZ6 (ZA hyZ7a (ZA hyZ7b cZ9))) (w_eb _ _ hrZ10) ?_
       refine ZG ?_
       cases h
       exact ZL (ZA cZ6 (ZA hyZ7a (ZA hyZ7b cZ9))) trivial
   · simp only [ZC, A131R2]
     obtain ⟨cZ12, h⟩ | ⟨cZ12, h⟩ := cond_s h
     · cases h
       exact ZL (ZA cZ6 cZ12) V131.eq_1
     · cases h
       exact ZL (ZA cZ6 cZ12) (ZA S_ak.eq_1 SX_ak.eq_1)
 · cases h
   exact ZL cZ6 (ZA S_ak.eq_1 SX_ak.eq_1)
def S_al (nZ0 : TNetwork) (v : Int) : St := ⟨[(1, .pt 1 0 0), (4, .i v)], [(1, .var (.agg [.lst .o 1 (nZ0.Nodes.map AV.z), .lst .o 4 (nZ0.Fibers.map (e_TFiber .o))]))]⟩
def SX_al (v : Unit) : St := ⟨[], []⟩
theorem w_al (nZ0 : TNetwork) (sZ16 : Int) (o : Int ⊕ (Unit ⊕ Bool)) (h : M_al nZ0 sZ16 = some o) : AWP (OkS Tryz.prog) A131L6 (qL [1, 4] [1] (S_al nZ0) (qS (qX 2 [] [] (SX_al)) (qR V131 (fun r => .b r))) o) (S_al nZ0 sZ16) := by
 unfold M_al at h
 simp only [ZC, S_al, A131L6]
 obtain ⟨cZ17, h⟩ | ⟨cZ17, h⟩ := cond_s h
 · obtain ⟨oZ24, hoZ24, h⟩ := bind_s h
   try refine ZF cZ17 ?_
   refine join_rule0 (sh := (fun v => ⟨[(1, .pt 1 0 0), (4, .i sZ16), (77, .b v)], [(1, .var (.agg [.lst .o 1 (nZ0.Nodes.map AV.z), .lst .o 4 (nZ0.Fibers.map (e_TFiber .o))]))]⟩)) (s := oZ24) ?_ ?_
   · replace h := hoZ24
     obtain ⟨yZ18, hyZ18, h⟩ := bind_s h
     obtain ⟨hyZ18a, hyZ18b⟩ := geti_s hyZ18
     obtain ⟨rZ19, hrZ19, h⟩ := bind_s h
     refine ZF (ZA cZ17 (ZA hyZ18a hyZ18b)) ?_
     refine ZS (ZA cZ17 (ZA hyZ18a hyZ18b)) (w_ec _ _ hrZ19) ?_
     refine ZG ?_
     obtain ⟨cZ20, h⟩ | ⟨cZ20, h⟩ := cond_s h
     · cases h
       exact ZL (ZA cZ17 (ZA hyZ18a (ZA hyZ18b cZ20))) trivial
     · obtain ⟨cZ21, h⟩ | ⟨cZ21, h⟩ := cond_s h
       · obtain ⟨yZ22, hyZ22, h⟩ := bind_s h
         obtain ⟨hyZ22a, hyZ22b⟩ := geti_s hyZ22
         obtain ⟨rZ23, hrZ23, h⟩ := bind_s h
         refine ZF (ZA cZ17 (ZA hyZ18a (ZA hyZ18b (ZA cZ20 (ZA cZ21 (ZA hyZ22a hyZ22b)))))) ?_
         refine ZS (ZA cZ17 (ZA hyZ18a (ZA hyZ18b (ZA cZ20 (ZA cZ21 (ZA hyZ22a hyZ22b)))))) (w_ed _ _ hrZ23) ?_
         refine ZG ?_
         cases h
         exact ZL (ZA cZ17 (ZA hyZ18a (ZA hyZ18b (ZA cZ20 (ZA cZ21 (ZA hyZ22a hyZ22b)))))) trivial
       · cases h
         exact ZL (ZA cZ17 (ZA hyZ18a (ZA hyZ18b (ZA cZ20 cZ21)))) trivial
   · simp only [ZC, A131R5]
     obtain ⟨cZ25, h⟩ | ⟨cZ25, h⟩ := cond_s h
     · cases h
       exact ZL (ZA cZ17 cZ25) V131.eq_1
     · cases h
       exact ZL (ZA cZ17 cZ25) (ZA S_al.eq_1 SX_al.eq_1)
 · cases h
   exact ZL cZ17 (ZA S_al.eq_1 SX_al.eq_1)
theorem w_cr (nZ0 : TNetwork) {r : Bool} (h : M_cr nZ0 = some r) : Ok Tryz.prog 131 [.agg [.lst .o 1 (nZ0.Nodes.map AV.z), .lst .o 4 (nZ0.Fibers.map (e_TFiber .o))]] ((fun r => .b r) r) := by
 refine ok_of_body hmix m131 rfl ?_
 unfold M_cr at h
 simp only [ZC, A131, V131, body_eq]
 obtain ⟨oZ3, hoZ3, h⟩ := bind_s h
 try refine ZF trivial ?_
 refine join_rule0 (sh := (fun v => ⟨[(1, .pt 1 0 0), (15, .b v)], [(1, .var (.agg [.lst .o 1 (nZ0.Nodes.map AV.z), .lst .o 4 (nZ0.Fibers.map (e_TFiber .o))]))]⟩)) (s := oZ3) ?_ ?_
 · replace h := hoZ3
   obtain ⟨rZ1, hrZ1, h⟩ := bind_s h
   refine ZF trivial ?_
   refine ZS trivial (w_a _ _ _ hrZ1) ?_
   refine ZG ?_
   obtain ⟨cZ2, h⟩ | ⟨cZ2, h⟩ := cond_s h
   · cases h
     exact ZL cZ2 trivial
   · cases h
     exact ZL cZ2 trivial
 · simp only [ZC, A131R1]
   obtain ⟨cZ4, h⟩ | ⟨cZ4, h⟩ := cond_s h
   · cases h
     exact ZL cZ4 V131.eq_1
   · obtain ⟨oZ13, hoZ13, h⟩ := bind_s h
     try refine ZF cZ4 ?_
     refine join_rule (o := oZ13) (blk_rule sideR (loop_rule (w_ak nZ0) hoZ13 ?_)) (fun vZ14 hv => ?_) (fun xZ15 hv e τ hne hq => ?_)
     · exact ZK (ZA S_ak.eq_1 SX_ak.eq_1)
     · subst hv
       simp only [] at h
       simp only [ZC, SX_ak, A131R4]
       obtain ⟨oZ26, hoZ26, h⟩ := bind_s h
       try refine ZF cZ4 ?_
       refine join_rule (o := oZ26) (blk_rule sideR (loop_rule (w_al nZ0) hoZ26 ?_)) (fun vZ27 hv => ?_) (fun xZ28 hv e τ hne hq => ?_)
       · exact ZK (ZA S_al.eq_1 SX_al.eq_1)
       · subst hv
         simp only [] at h
         simp only [ZC, SX_al, A131R7]
         cases h
         exact ZL cZ4 V131.eq_1
       · subst hv
         simp only [] at h
         obtain ⟨rfl, qZ29⟩ := hq
         cases h
         exact qZ29
     · subst hv
       simp only [] at h
       obtain ⟨rfl, qZ30⟩ := hq
       cases h
       exact qZ30
theorem w_ee (nZ0 : TNetwork) (fiberZ0 : Int) (nodeZ0 : Int) {r : Int} (h : M_ee nZ0 fiberZ0 nodeZ0 = some r) : Ok Tryz.prog 233 [.agg [.lst .o 1 (nZ0.Nodes.map AV.z), .lst .o 4 (nZ0.Fibers.map (e_TFiber .o))], .i fiberZ0, .i nodeZ0] ((fun r => .i r) r) := by
 refine ok_of_body hmix m233 rfl ?_
 unfold M_ee at h
 simp only [ZC, A233, V233, body_eq]
 obtain ⟨yZ1, hyZ1, h⟩ := bind_s h
 obtain ⟨hyZ1a, hyZ1b⟩ := geti_s hyZ1
 obtain ⟨cZ2, h⟩ | ⟨cZ2, h⟩ := cond_s h
 · cases h
   exact ZL (ZA hyZ1a (ZA hyZ1b cZ2)) V233.eq_1
 · obtain ⟨cZ3, h⟩ | ⟨cZ3, h⟩ := cond_s h
   · cases h
     exact ZL (ZA hyZ1a (ZA hyZ1b (ZA cZ2 cZ3))) V233.eq_1
   · cases h
     exact ZL (ZA hyZ1a (ZA hyZ1b (ZA cZ2 cZ3))) V233.eq_1
def S_am (lZ0 : List Int) (nZ0 : Int) (v : Int) : St := ⟨[(0, .lst .o 1 (lZ0.map AV.i)), (1, .i nZ0), (5, .i v)], []⟩
def SX_am (v : Unit) : St := ⟨[], []⟩
theorem w_am (lZ0 : List Int) (nZ0 : Int) (sZ1 : Int) (o : Int ⊕ (Unit ⊕ Bool)) (h : M_am lZ0 nZ0 sZ1 = some o) : AWP (OkS Tryz.prog) A74L1 (qL [0, 1, 5] [] (S_am lZ0 nZ0) (qS (qX 0 [] [] (SX_am)) (qR V74 (fun r => .b r))) o) (S_am lZ0 nZ0 sZ1) := by
 unfold M_am at h
 simp only [ZC, S_am, A74L1]
 obtain ⟨cZ2, h⟩ | ⟨cZ2, h⟩ := cond_s h
 · obtain ⟨yZ3, hyZ3, h⟩ := bind_s h
   obtain ⟨hyZ3a, hyZ3b⟩ := geti_s hyZ3
   obtain ⟨cZ4, h⟩ | ⟨cZ4, h⟩ := cond_s h
   · cases h
     exact ZL (ZA cZ2 (ZA hyZ3a (ZA hyZ3b cZ4))) V74.eq_1
   · cases h
     exact ZL (ZA cZ2 (ZA hyZ3a (ZA hyZ3b cZ4))) (ZA S_am.eq_1 SX_am.eq_1)
 · cases h
   exact ZL cZ2 (ZA S_am.eq_1 SX_am.eq_1)
theorem w_cg (lZ0 : List Int) (nZ0 : Int) {r : Bool} (h : M_cg lZ0 nZ0 = some r) : Ok Tryz.prog 74 [.lst .o 1 (lZ0.map AV.i), .i nZ0] ((fun r => .b r) r) := by
 refine ok_of_body hmix m74 rfl ?_
 unfold M_cg at h
 simp only [ZC, A74, V74, body_eq]
 obtain ⟨oZ5, hoZ5, h⟩ := bind_s h
 try refine ZF trivial ?_
 refine join_rule (o := oZ5) (blk_rule sideR (loop_rule (w_am lZ0 nZ0) hoZ5 ?_)) (fun vZ6 hv => ?_) (fun xZ7 hv e τ hne hq => ?_)
 · exact ZK (ZA S_am.eq_1 SX_am.eq_1)
 · subst hv
   simp only [] at h
   simp only [ZC, SX_am, A74R2]
   cases h
   exact ZL trivial V74.eq_1
 · subst hv
   simp only [] at h
   obtain ⟨rfl, qZ8⟩ := hq
   cases h
   exact qZ8
def S_an (nZ0 : TNetwork) (rZ0 : TRoute) (v : Int × List Int) : St := ⟨[(2, .pt 2 0 0), (3, .pt 3 0 0), (6, .sl 6 0 v.2.length), (7, .i v.1)], [(2, .var (.agg [.lst .o 1 (nZ0.Nodes.map AV.z), .lst .o 4 (nZ0.Fibers.map (e_TFiber .o))])), (3, .var (.agg [.i rZ0.Start, .lst .o 1 (rZ0.Fibers.map AV.i)])), (6, .arr 1 (v.2.map AV.i))]⟩
def SX_an (v : List Int) : St := ⟨[(6, .sl 6 0 v.length)], [(6, .arr 1 (v.map AV.i))]⟩
theorem w_an (nZ0 : TNetwork) (rZ0 : TRoute) (sZ8 : Int × List Int) (o : (Int × List Int) ⊕ ((List Int) ⊕ (List Int × Bool))) (h : M_an nZ0 rZ0 sZ8 = some o) : AWP (OkS Tryz.prog) A227L3 (qL [2, 3, 6, 7] [2, 3, 6] (S_an nZ0 rZ0) (qS (qX 0 [6] [6] (SX_an)) (qR V227 (fun r => .tup [.lst .u 1 (r.1.map AV.i), .b r.2]))) o) (S_an nZ0 rZ0 sZ8) := by
 unfold M_an at h
 simp only [ZC, S_an, A227L3]
 obtain ⟨cZ9, h⟩ | ⟨cZ9, h⟩ := cond_s h
 · obtain ⟨yZ10, hyZ10, h⟩ := bind_s h
   obtain ⟨hyZ10a, hyZ10b⟩ := geti_s hyZ10
   obtain ⟨rZ11, hrZ11, h⟩ := bind_s h
   refine ZF (ZA cZ9 (ZA hyZ10a hyZ10b)) ?_
   refine ZS (ZA cZ9 (ZA hyZ10a hyZ10b)) (w_a _ _ _ hrZ11) ?_
   refine ZG ?_
   obtain ⟨cZ12, h⟩ | ⟨cZ12, h⟩ := cond_s h
   · cases h
     exact ZL (ZA cZ9 (ZA hyZ10a (ZA hyZ10b cZ12))) V227.eq_1
   · obtain ⟨kZ13, hkZ13, h⟩ := bind_s h
     obtain ⟨hkZ13a, hkZ13b⟩ := grd_s hkZ13
     obtain ⟨yZ14, hyZ14, h⟩ := bind_s h
     obtain ⟨rZ15, hrZ15, h⟩ := bind_s h
     refine ZF (ZA cZ9 (ZA hyZ10a (ZA hyZ10b (ZA cZ12 (ZA hkZ13a (ZA hkZ13b hyZ14)))))) ?_
     refine ZS (ZA cZ9 (ZA hyZ10a (ZA hyZ10b (ZA cZ12 (ZA hkZ13a (ZA hkZ13b hyZ14)))))) (w_ee _ _ _ hrZ15) ?_
     refine ZG ?_
     obtain ⟨oZ18, hoZ18, h⟩ := bind_s h
     try refine ZF (ZA cZ9 (ZA hyZ10a (ZA hyZ10b (ZA cZ12 (ZA hkZ13a (ZA hkZ13b hyZ14)))))) ?_
     refine join_rule0 (sh := (fun v => ⟨[(2, .pt 2 0 0), (3, .pt 3 0 0), (6, .sl 6 0 sZ8.2.length), (7, .i sZ8.1), (8, .i rZ15), (65, .b v)], [(2, .var (.agg [.lst .o 1 (nZ0.Nodes.map AV.z), .lst .o 4 (nZ0.Fibers.map (e_TFiber .o))])), (3, .var (.agg [.i rZ0.Start, .lst .o 1 (rZ0.Fibers.map AV.i)])), (6, .arr 1 (sZ8.2.map AV.i))]⟩)) (s := oZ18) ?_ ?_
     · replace h := hoZ18
       obtain ⟨cZ16, h⟩ | ⟨cZ16, h⟩ := cond_s h
       · cases h
         exact ZL (ZA cZ9 (ZA hyZ10a (ZA hyZ10b (ZA cZ12 (ZA hkZ13a (ZA hkZ13b (ZA hyZ14 cZ16))))))) trivial
       · obtain ⟨rZ17, hrZ17, h⟩ := bind_s h
         refine ZF (ZA cZ9 (ZA hyZ10a (ZA hyZ10b (ZA cZ12 (ZA hkZ13a (ZA hkZ13b (ZA hyZ14 cZ16))))))) ?_
         refine ZS (ZA cZ9 (ZA hyZ10a (ZA hyZ10b (ZA cZ12 (ZA hkZ13a (ZA hkZ13b (ZA hyZ14 cZ16))))))) (w_cg _ _ hrZ17) ?_
         refine ZG ?_
         cases h
         exact ZL (ZA cZ9 (ZA hyZ10a (ZA hyZ10b (ZA cZ12 (ZA hkZ13a (ZA hkZ13b (ZA hyZ14 cZ16))))))) trivial
     · simp only [ZC, A227R2]
       obtain ⟨cZ19, h⟩ | ⟨cZ19, h⟩ := cond_s h
       · cases h
         exact ZL (ZA cZ9 (ZA hyZ10a (ZA hyZ10b (ZA cZ12 (ZA hkZ13a (ZA hkZ13b (ZA hyZ14 cZ19))))))) V227.eq_1
       · obtain ⟨lZ20, hlZ20, h⟩ := bnd_s h
         have eZ21 : Row.arr 1 [(.i rZ15 : AV)] = Row.arr 1 (lZ20.map AV.i) := by rw [← hlZ20]; rfl
         have jjZ22 : lZ20.length = 1 := by rw [← hlZ20]; rfl
         obtain ⟨uZ23, huZ23, h⟩ := bind_s h
         have huZ23g := grd_s huZ23
         obtain ⟨lZ24, hlZ24, h⟩ := bnd_s h
         have eZ25 : sZ8.2.map AV.i ++ lZ20.map AV.i = lZ24.map AV.i := by rw [← hlZ24, List.map_append]
         have eZ26 : sZ8.2.length + 1 = lZ24.length := by simp [← hlZ20, ← hlZ24] <;> omega
         rw [eZ26] at huZ23g
         cases h
         exact ZL (ZA cZ9 (ZA hyZ10a (ZA hyZ10b (ZA cZ12 (ZA hkZ13a (ZA hkZ13b (ZA hyZ14 (ZA cZ19 (ZA eZ21 (ZA jjZ22 (ZA huZ23g (ZA eZ25 eZ26)))))))))))) (ZA S_an.eq_1 (ZA SX_an.eq_1 (ZA hlZ20.symm (ZA hlZ24.symm jjZ22))))
 · cases h
   exact ZL cZ9 (ZA S_an.eq_1 SX_an.eq_1)
theorem w_cs (nZ0 : TNetwork) (rZ0 : TRoute) {r : List Int × Bool} (h : M_cs nZ0 rZ0 = some r) : Ok Tryz.prog 227 [.agg [.lst .o 1 (nZ0.Nodes.map AV.z), .lst .o 4 (nZ0.Fibers.map (e_TFiber .o))], .agg [.i rZ0.Start, .lst .o 1 (rZ0.Fibers.map AV.i)]] ((fun r => .tup [.lst .u 1 (r.1.map AV.i), .b r.2]) r) := by
 refine ok_of_body hmix m227 rfl ?_
 unfold M_cs at h
 simp only [ZC, A227, V227, body_eq]
 obtain ⟨lZ1, hlZ1, h⟩ := bnd_s h
 have eZ2 : Row.arr 1 [(.i rZ0.Start : AV)] = Row.arr 1 (lZ1.map AV.i) := by rw [← hlZ1]; rfl
 have jjZ3 : lZ1.length = 1 := by rw [← hlZ1]; rfl
 obtain ⟨oZ6, hoZ6, h⟩ := bind_s h
 try refine ZF (ZA eZ2 jjZ3) ?_
 refine join_rule0 (sh := (fun v => ⟨[(2, .pt 2 0 0), (3, .pt 3 0 0), (6, .sl 6 0 lZ1.length), (25, .b v)], [(2, .var (.agg [.lst .o 1 (nZ0.Nodes.map AV.z), .lst .o 4 (nZ0.Fibers.map (e_TFiber .o))])), (3, .var (.agg [.i rZ0.Start, .lst .o 1 (rZ0.Fibers.map AV.i)])), (6, .arr 1 (lZ1.map AV.i))]⟩)) (s := oZ6) ?_ ?_
 · replace h := hoZ6
   obtain ⟨rZ4, hrZ4, h⟩ := bind_s h
   refine ZF (ZA eZ2 jjZ3) ?_
   refine ZS (ZA eZ2 jjZ3) (w_a _ _ _ hrZ4) ?_
   refine ZG ?_
   obtain ⟨cZ5, h⟩ | ⟨cZ5, h⟩ := cond_s h
   · cases h
     exact ZL (ZA eZ2 (ZA jjZ3 cZ5)) (ZA hlZ1.symm jjZ3)
   · cases h
     exact ZL (ZA eZ2 (ZA jjZ3 cZ5)) (ZA hlZ1.symm jjZ3)
 · simp only [ZC, A227R1]
   obtain ⟨cZ7, h⟩ | ⟨cZ7, h⟩ := cond_s h
   · cases h
     exact ZL (ZA eZ2 (ZA jjZ3 cZ7)) (ZA V227.eq_1 jjZ3)
   · obtain ⟨oZ27, hoZ27, h⟩ := bind_s h
     try refine ZF (ZA eZ2 (ZA jjZ3 cZ7)) ?_
     refine join_rule (o := oZ27) (blk_rule sideR (loop_rule (w_an nZ0 rZ0) hoZ27 ?_)) (fun vZ28 hv => ?_) (fun xZ29 hv e τ hne hq => ?_)
     · exact ZK (ZA S_an.eq_1 (ZA SX_an.eq_1 jjZ3))
     · subst hv
       simp only [] at h
       simp only [ZC, SX_an, A227R4]
       cases h
       exact ZL (ZA eZ2 (ZA jjZ3 cZ7)) (ZA V227.eq_1 jjZ3)
     · subst hv
       simp only [] at h
       obtain ⟨rfl, qZ30⟩ := hq
       cases h
       exact qZ30
theorem w_cm (nZ0 : TNetwork) (rZ0 : TRoute) {r : Bool} (h : M_cm nZ0 rZ0 = some r) : Ok Tryz.prog 198 [.agg [.lst .o 1 (nZ0.Nodes.map AV.z), .lst .o 4 (nZ0.Fibers.map (e_TFiber .o))], .agg [.i rZ0.Start, .lst .o 1 (rZ0.Fibers.map AV.i)]] ((fun r => .b r) r) := by
 refine ok_of_body hmix m198 rfl ?_
 unfold M_cm at h
 simp only [ZC, A198, V198, body_eq]
 obtain ⟨rZ1, hrZ1, h⟩ := bind_s h
 refine ZF trivial ?_
 refine ZS trivial (w_cr _ hrZ1) ?_
 refine ZG ?_
 obtain ⟨cZ2, h⟩ | ⟨cZ2, h⟩ := cond_s h
 · cases h
   exact ZL cZ2 V198.eq_1
 · obtain ⟨rZ3, hrZ3, h⟩ := bind_s h
   refine ZF cZ2 ?_
   refine ZU cZ2 (w_cs _ _ hrZ3) ?_
   refine ZG ?_
   cases h
   exact ZL cZ2 V198.eq_1
theorem w_ct (bZ0 : TBlock) {r : Bool} (h : M_ct bZ0 = some r) : Ok Tryz.prog 199 [.agg [.i bZ0.First, .i bZ0.Count]] ((fun r => .b r) r) := by
 refine ok_of_body hmix m199 rfl ?_
 unfold M_ct at h
 simp only [ZC, A199, V199, body_eq]
 obtain ⟨rZ1, hrZ1, h⟩ := bind_s h
 refine ZF trivial ?_
 refine ZS trivial (w_a _ _ _ hrZ1) ?_
 refine ZG ?_
 obtain ⟨cZ2, h⟩ | ⟨cZ2, h⟩ := cond_s h
 · obtain ⟨rZ3, hrZ3, h⟩ := bind_s h
   refine ZF cZ2 ?_
   refine ZS cZ2 (w_a _ _ _ hrZ3) ?_
   refine ZG ?_
   cases h
   exact ZL cZ2 V199.eq_1
 · cases h
   exact ZL cZ2 V199.eq_1
theorem w_fx (nZ0 : TNetwork) (rZ0 : TRoute) {r : List Int} (h : M_fx nZ0 rZ0 = some r) : Ok Tryz.prog 228 [.agg [.lst .o 1 (nZ0.Nodes.map AV.z), .lst .o 4 (nZ0.Fibers.map (e_TFiber .o))], .agg [.i rZ0.Start, .lst .o 1 (rZ0.Fibers.map AV.i)]] ((fun r => .lst .u 1 (r.map AV.i)) r) := by
 refine ok_of_body hmix m228 rfl ?_
 unfold M_fx at h
 simp only [ZC, A228, V228, body_eq]
 obtain ⟨rZ1, hrZ1, h⟩ := bind_s h
 refine ZF trivial ?_
 refine ZU trivial (w_cs _ _ hrZ1) ?_
 refine ZG ?_
 cases h
 exact ZL trivial V228.eq_1
theorem w_cu (nZ0 : TNetwork) (rZ0 : TRoute) {r : Int} (h : M_cu nZ0 rZ0 = some r) : Ok Tryz.prog 200 [.agg [.lst .o 1 (nZ0.Nodes.map AV.z), .lst .o 4 (nZ0.Fibers.map (e_TFiber .o))], .agg [.i rZ0.Start, .lst .o 1 (rZ0.Fibers.map AV.i)]] ((fun r => .i r) r) := by
 refine ok_of_body hmix m200 rfl ?_
 unfold M_cu at h
 simp only [ZC, A200, V200, body_eq]
 obtain ⟨rZ1, hrZ1, h⟩ := bind_s h
 refine ZF trivial ?_
 refine ZU trivial (w_fx _ _ hrZ1) ?_
 refine ZG ?_
 obtain ⟨kZ2, hkZ2, h⟩ := bind_s h
 obtain ⟨hkZ2a, hkZ2b⟩ := grd_s hkZ2
 obtain ⟨yZ3, hyZ3, h⟩ := bind_s h
 cases h
 exact ZL (ZA hkZ2a (ZA hkZ2b hyZ3)) V200.eq_1
def S_m (nZ0 : TNetwork) (fiberZ0 : Int) (v : Int × List Int) : St := ⟨[(1, .i fiberZ0), (2, .pt 2 0 0), (5, .sl 5 0 v.2.length), (6, .i v.1)], [(2, .var (.agg [.lst .o 1 (nZ0.Nodes.map AV.z), .lst .o 4 (nZ0.Fibers.map (e_TFiber .o))])), (5, .arr 1 (v.2.map AV.i))]⟩
def SX_m (v : List Int) : St := ⟨[(5, .sl 5 0 v.length)], [(5, .arr 1 (v.map AV.i))]⟩
theorem w_m (nZ0 : TNetwork) (fiberZ0 : Int) (sZ7 : Int × List Int) (o : (Int × List Int) ⊕ (List Int)) (h : M_m nZ0 fiberZ0 sZ7 = some o) : AWP (OkS Tryz.prog) A192L1 (qL [1, 2, 5, 6] [2, 5] (S_m nZ0 fiberZ0) (qX 0 [5] [5] (SX_m)) o) (S_m nZ0 fiberZ0 sZ7) := by
 unfold M_m at h
 simp only [ZC, S_m, A192L1]
 obtain ⟨cZ8, h⟩ | ⟨cZ8, h⟩ := cond_s h
 · obtain ⟨yZ9, hyZ9, h⟩ := bind_s h
   obtain ⟨hyZ9a, hyZ9b⟩ := geti_s hyZ9
   obtain ⟨yZ10, hyZ10, h⟩ := bind_s h
   obtain ⟨hyZ10a, hyZ10b⟩ := geti_s hyZ10
   obtain ⟨cZ11, h⟩ | ⟨cZ11, h⟩ := cond_s h
   · obtain ⟨lZ12, hlZ12, h⟩ := bnd_s h
     have eZ13 : Row.arr 1 [(.i sZ7.1 : AV)] = Row.arr 1 (lZ12.map AV.i) := by rw [← hlZ12]; rfl
     have jjZ14 : lZ12.length = 1 := by rw [← hlZ12]; rfl
     obtain ⟨uZ15, huZ15, h⟩ := bind_s h
     have huZ15g := grd_s huZ15
     obtain ⟨lZ16, hlZ16, h⟩ := bnd_s h
     have eZ17 : sZ7.2.map AV.i ++ lZ12.map AV.i = lZ16.map AV.i := by rw [← hlZ16, List.map_append]
     have eZ18 : sZ7.2.length + 1 = lZ16.length := by simp [← hlZ12, ← hlZ16] <;> omega
     rw [eZ18] at huZ15g
     cases h
     exact ZL (ZA cZ8 (ZA hyZ9a (ZA hyZ9b (ZA hyZ10a (ZA hyZ10b (ZA cZ11 (ZA eZ13 (ZA jjZ14 (ZA huZ15g (ZA eZ17 eZ18)))))))))) (ZA S_m.eq_1 (ZA SX_m.eq_1 (ZA hlZ12.symm (ZA hlZ16.symm jjZ14))))
   · cases h
     exact ZL (ZA cZ8 (ZA hyZ9a (ZA hyZ9b (ZA hyZ10a (ZA hyZ10b cZ11))))) (ZA S_m.eq_1 SX_m.eq_1)
 · cases h
   exact ZL cZ8 (ZA S_m.eq_1 SX_m.eq_1)
theorem w_ch (nZ0 : TNetwork) (fiberZ0 : Int) {r : List Int} (h : M_ch nZ0 fiberZ0 = some r) : Ok Tryz.prog 192 [.agg [.lst .o 1 (nZ0.Nodes.map AV.z), .lst .o 4 (nZ0.Fibers.map (e_TFiber .o))], .i fiberZ0] ((fun r => .lst .u 1 (r.map AV.i)) r) := by
 refine ok_of_body hmix m192 rfl ?_
 unfold M_ch at h
 simp only [ZC, A192, V192, body_eq]
 obtain ⟨yZ1, hyZ1, h⟩ := bind_s h
 obtain ⟨hyZ1a, hyZ1b⟩ := geti_s hyZ1
 obtain ⟨cZ2, h⟩ | ⟨cZ2, h⟩ := cond_s h
 · obtain ⟨lZ3, hlZ3, h⟩ := bnd_s h
   have eZ4 : Row.arr 1 [(.i fiberZ0 : AV)] = Row.arr 1 (lZ3.map AV.i) := by rw [← hlZ3]; rfl
   have jjZ5 : lZ3.length = 1 := by rw [← hlZ3]; rfl
   have nZ6 : sub (lZ3.map AV.i) 0 1 = lZ3.map AV.i := sub_n _ (by simp [← hlZ3])
   cases h
   exact ZL (ZA hyZ1a (ZA hyZ1b (ZA cZ2 (ZA eZ4 (ZA jjZ5 nZ6))))) (ZA V192.eq_1 (ZA hlZ3.symm jjZ5))
 · obtain ⟨oZ19, hoZ19, h⟩ := bind_s h
   try refine ZF (ZA hyZ1a (ZA hyZ1b cZ2)) ?_
   refine join_rule0 (blk_rule0 (loop_rule (w_m nZ0 fiberZ0) hoZ19 ?_)) ?_
   · exact ZK (ZA S_m.eq_1 SX_m.eq_1)
   · simp only [ZC, SX_m, A192R2]
     cases h
     exact ZL (ZA hyZ1a (ZA hyZ1b cZ2)) V192.eq_1
def S_z (nZ0 : TNetwork) (aZ0 : TRoute) (bZ0 : TRoute) (sZ1 : Int) (rZ4 : List Int) (v : Int) : St := ⟨[(3, .pt 3 0 0), (4, .pt 4 0 0), (5, .pt 5 0 0), (7, .i sZ1), (8, .sl 8 0 rZ4.length), (9, .i v)], [(3, .var (.agg [.lst .o 1 (nZ0.Nodes.map AV.z), .lst .o 4 (nZ0.Fibers.map (e_TFiber .o))])), (4, .var (.agg [.i aZ0.Start, .lst .o 1 (aZ0.Fibers.map AV.i)])), (5, .var (.agg [.i bZ0.Start, .lst .o 1 (bZ0.Fibers.map AV.i)])), (8, .arr 1 (rZ4.map AV.i))]⟩
def SX_z (nZ0 : TNetwork) (aZ0 : TRoute) (bZ0 : TRoute) (sZ1 : Int) (v : Unit) : St := ⟨[(3, .pt 3 0 0), (4, .pt 4 0 0), (5, .pt 5 0 0), (7, .i sZ1)], [(3, .var (.agg [.lst .o 1 (nZ0.Nodes.map AV.z), .lst .o 4 (nZ0.Fibers.map (e_TFiber .o))])), (4, .var (.agg [.i aZ0.Start, .lst .o 1 (aZ0.Fibers.map AV.i)])), (5, .var (.agg [.i bZ0.Start, .lst .o 1 (bZ0.Fibers.map AV.i)]))]⟩
theorem w_z (nZ0 : TNetwork) (aZ0 : TRoute) (bZ0 : TRoute) (sZ1 : Int) (rZ4 : List Int) (sZ5 : Int) (o : Int ⊕ (Unit ⊕ Bool)) (h : M_z bZ0 rZ4 sZ5 = some o) : AWP (OkS Tryz.prog) A185L1 (qL [3, 4, 5, 7, 8, 9] [3, 4, 5, 8] (S_z nZ0 aZ0 bZ0 sZ1 rZ4) (qS (qX 2 [3, 4, 5, 7] [3, 4, 5] (SX_z nZ0 aZ0 bZ0 sZ1)) (qR V185 (fun r => .b r))) o) (S_z nZ0 aZ0 bZ0 sZ1 rZ4 sZ5) := by
 unfold M_z at h
 simp only [ZC, S_z, A185L1]
 obtain ⟨cZ6, h⟩ | ⟨cZ6, h⟩ := cond_s h
 · obtain ⟨yZ7, hyZ7, h⟩ := bind_s h
   obtain ⟨hyZ7a, hyZ7b⟩ := geti_s hyZ7
   obtain ⟨rZ8, hrZ8, h⟩ := bind_s h
   refine ZF (ZA cZ6 (ZA hyZ7a hyZ7b)) ?_
   refine ZS (ZA cZ6 (ZA hyZ7a hyZ7b)) (w_cg _ _ hrZ8) ?_
   refine ZG ?_
   obtain ⟨cZ9, h⟩ | ⟨cZ9, h⟩ := cond_s h
   · cases h
     exact ZL (ZA cZ6 (ZA hyZ7a (ZA hyZ7b cZ9))) V185.eq_1
   · cases h
     exact ZL (ZA cZ6 (ZA hyZ7a (ZA hyZ7b cZ9))) (ZA S_z.eq_1 SX_z.eq_1)
 · cases h
   exact ZL cZ6 (ZA S_z.eq_1 SX_z.eq_1)
def S_ao (nZ0 : TNetwork) (aZ0 : TRoute) (bZ0 : TRoute) (v : Int) : St := ⟨[(3, .pt 3 0 0), (4, .pt 4 0 0), (5, .pt 5 0 0), (7, .i v)], [(3, .var (.agg [.lst .o 1 (nZ0.Nodes.map AV.z), .lst .o 4 (nZ0.Fibers.map (e_TFiber .o))])), (4, .var (.agg [.i aZ0.Start, .lst .o 1 (aZ0.Fibers.map AV.i)])), (5, .var (.agg [.i bZ0.Start, .lst .o 1 (bZ0.Fibers.map AV.i)]))]⟩
def SX_ao (v : Unit) : St := ⟨[], []⟩
theorem w_ao (nZ0 : TNetwork) (aZ0 : TRoute) (bZ0 : TRoute) (sZ1 : Int) (o : Int ⊕ (Unit ⊕ Bool)) (h : M_ao nZ0 aZ0 bZ0 sZ1 = some o) : AWP (OkS Tryz.prog) A185L3 (qL [3, 4, 5, 7] [3, 4, 5] (S_ao nZ0 aZ0 bZ0) (qS (qX 0 [] [] (SX_ao)) (qR V185 (fun r => .b r))) o) (S_ao nZ0 aZ0 bZ0 sZ1) := by
 unfold M_ao at h
 simp only [ZC, S_ao, A185L3]
 obtain ⟨cZ2, h⟩ | ⟨cZ2, h⟩ := cond_s h
 · obtain ⟨oZ15, hoZ15, h⟩ := bind_s h
   try refine ZF cZ2 ?_
   refine join_rule (sh := (fun v => ⟨[(3, .pt 3 0 0), (4, .pt 4 0 0), (5, .pt 5 0 0), (7, .i sZ1)], [(3, .var (.agg [.lst .o 1 (nZ0.Nodes.map AV.z), .lst .o 4 (nZ0.Fibers.map (e_TFiber .o))])), (4, .var (.agg [.i aZ0.Start, .lst .o 1 (aZ0.Fibers.map AV.i)])), (5, .var (.agg [.i bZ0.Start, .lst .o 1 (bZ0.Fibers.map AV.i)]))]⟩)) (q := (qR V185 (fun r => .b r))) (o := oZ15) ?_ (fun vZ16 hv => ?_) (fun xZ17 hv e τ hne hq => ?_)
   · replace h := hoZ15
     obtain ⟨yZ3, hyZ3, h⟩ := bind_s h
     obtain ⟨hyZ3a, hyZ3b⟩ := geti_s hyZ3
     obtain ⟨rZ4, hrZ4, h⟩ := bind_s h
     refine ZF (ZA cZ2 (ZA hyZ3a hyZ3b)) ?_
     refine ZU (ZA cZ2 (ZA hyZ3a hyZ3b)) (w_ch _ _ hrZ4) ?_
     refine ZG ?_
     obtain ⟨oZ10, hoZ10, h⟩ := bind_s h
     try refine ZF (ZA cZ2 (ZA hyZ3a hyZ3b)) ?_
     first | refine tail_rule (o := oZ10) (blk_rule sideR (loop_rule (w_z nZ0 aZ0 bZ0 sZ1 rZ4) hoZ10 ?_)) (fun vZ11 hv τ qZ13 => ?_) (fun xZ12 hv e τ hne hq => ?_) | refine tail_blk (o := oZ10) sideR (loop_rule (w_z nZ0 aZ0 bZ0 sZ1 rZ4) hoZ10 ?_) (fun vZ11 hv τ qZ13 => ?_) (fun xZ12 hv e τ hne hq => ?_)
     · exact ZK (ZA S_z.eq_1 SX_z.eq_1)
     · subst hv
       simp only [] at h
       cases h
       try refine ZF trivial ?_
       refine ⟨rfl, Shp.sub qZ13 (by decide) (by decide) ?_⟩
       exact ZK SX_z.eq_1
     · subst hv
       simp only [] at h
       obtain ⟨rfl, qZ14⟩ := hq
       cases h
       try refine ZF trivial ?_
       first | exact ⟨by simp, qZ14⟩ | exact ⟨by simp, rfl, qZ14⟩
   · subst hv
     simp only [] at h
     simp only [ZC, A185R2]
     cases h
     exact ZL cZ2 (ZA S_ao.eq_1 SX_ao.eq_1)
   · subst hv
     simp only [] at h
     obtain ⟨rfl, qZ18⟩ := hq
     cases h
     try refine ZF trivial ?_
     first | exact ⟨by simp, qZ18⟩ | exact ⟨by simp, rfl, qZ18⟩
 · cases h
   exact ZL cZ2 (ZA S_ao.eq_1 SX_ao.eq_1)
theorem w_cv (nZ0 : TNetwork) (aZ0 : TRoute) (bZ0 : TRoute) {r : Bool} (h : M_cv nZ0 aZ0 bZ0 = some r) : Ok Tryz.prog 185 [.agg [.lst .o 1 (nZ0.Nodes.map AV.z), .lst .o 4 (nZ0.Fibers.map (e_TFiber .o))], .agg [.i aZ0.Start, .lst .o 1 (aZ0.Fibers.map AV.i)], .agg [.i bZ0.Start, .lst .o 1 (bZ0.Fibers.map AV.i)]] ((fun r => .b r) r) := by
 refine ok_of_body hmix m185 rfl ?_
 unfold M_cv at h
 simp only [ZC, A185, V185, body_eq]
 obtain ⟨oZ19, hoZ19, h⟩ := bind_s h
 try refine ZF trivial ?_
 refine join_rule (o := oZ19) (blk_rule sideR (loop_rule (w_ao nZ0 aZ0 bZ0) hoZ19 ?_)) (fun vZ20 hv => ?_) (fun xZ21 hv e τ hne hq => ?_)
 · exact ZK (ZA S_ao.eq_1 SX_ao.eq_1)
 · subst hv
   simp only [] at h
   simp only [ZC, SX_ao, A185R4]
   cases h
   exact ZL trivial V185.eq_1
 · subst hv
   simp only [] at h
   obtain ⟨rfl, qZ22⟩ := hq
   cases h
   exact qZ22
theorem w_ef (nZ0 : TNetwork) (sZ0 : TService) {r : Bool} (h : M_ef nZ0 sZ0 = some r) : Ok Tryz.prog 132 [.agg [.lst .o 1 (nZ0.Nodes.map AV.z), .lst .o 4 (nZ0.Fibers.map (e_TFiber .o))], .agg [.i sZ0.Id, .i sZ0.Class, .i sZ0.Work.Start, .lst .o 1 (sZ0.Work.Fibers.map AV.i), .i sZ0.WorkBlock.First, .i sZ0.WorkBlock.Count, .i sZ0.Spare.Start, .lst .o 1 (sZ0.Spare.Fibers.map AV.i), .i sZ0.SpareBlock.First, .i sZ0.SpareBlock.Count]] ((fun r => .b r) r) := by
 refine ok_of_body hmix m132 rfl ?_
 unfold M_ef at h
 simp only [ZC, A132, V132, body_eq]
 obtain ⟨oZ8, hoZ8, h⟩ := bind_s h
 try refine ZF trivial ?_
 refine join_rule0 (sh := (fun v => ⟨[(2, .pt 2 0 0), (3, .pt 3 0 0), (27, .b v)], [(2, .var (.agg [.lst .o 1 (nZ0.Nodes.map AV.z), .lst .o 4 (nZ0.Fibers.map (e_TFiber .o))])), (3, .var (.agg [.i sZ0.Id, .i sZ0.Class, .i sZ0.Work.Start, .lst .o 1 (sZ0.Work.Fibers.map AV.i), .i sZ0.WorkBlock.First, .i sZ0.WorkBlock.Count, .i sZ0.Spare.Start, .lst .o 1 (sZ0.Spare.Fibers.map AV.i), .i sZ0.SpareBlock.First, .i sZ0.SpareBlock.Count]))]⟩)) (s := oZ8) ?_ ?_
 · replace h := hoZ8
   obtain ⟨rZ1, hrZ1, h⟩ := bind_s h
   refine ZF trivial ?_
   refine ZS trivial (w_a _ _ _ hrZ1) ?_
   refine ZG ?_
   obtain ⟨cZ2, h⟩ | ⟨cZ2, h⟩ := cond_s h
   · cases h
     exact ZL cZ2 trivial
   · obtain ⟨rZ3, hrZ3, h⟩ := bind_s h
     refine ZF cZ2 ?_
     refine ZS cZ2 (w_a _ _ _ hrZ3) ?_
     refine ZG ?_
     obtain ⟨cZ4, h⟩ | ⟨cZ4, h⟩ := cond_s h
     · cases h
       exact ZL (ZA cZ2 cZ4) trivial
     · obtain ⟨rZ5, hrZ5, h⟩ := bind_s h
       refine ZF (ZA cZ2 cZ4) ?_
       refine ZS (ZA cZ2 cZ4) (w_cm _ _ hrZ5) ?_
       refine ZG ?_
       obtain ⟨cZ6, h⟩ | ⟨cZ6, h⟩ := cond_s h
       · cases h
         exact ZL (ZA cZ2 (ZA cZ4 cZ6)) trivial
       · obtain ⟨rZ7, hrZ7, h⟩ := bind_s h
         refine ZF (ZA cZ2 (ZA cZ4 cZ6)) ?_
         refine ZS (ZA cZ2 (ZA cZ4 cZ6)) (w_ct _ hrZ7) ?_
         refine ZG ?_
         cases h
         exact ZL (ZA cZ2 (ZA cZ4 cZ6)) trivial
 · simp only [ZC, A132R1]
   obtain ⟨cZ9, h⟩ | ⟨cZ9, h⟩ := cond_s h
   · cases h
     exact ZL cZ9 V132.eq_1
   · obtain ⟨cZ10, h⟩ | ⟨cZ10, h⟩ := cond_s h
     · obtain ⟨oZ13, hoZ13, h⟩ := bind_s h
       try refine ZF (ZA cZ9 cZ10) ?_
       refine join_rule0 (sh := (fun v => ⟨[(4, .b v)], []⟩)) (s := oZ13) ?_ ?_
       · replace h := hoZ13
         obtain ⟨cZ11, h⟩ | ⟨cZ11, h⟩ := cond_s h
         · obtain ⟨cZ12, h⟩ | ⟨cZ12, h⟩ := cond_s h
           · cases h
             exact ZL (ZA cZ9 (ZA cZ10 (ZA cZ11 cZ12))) trivial
           · cases h
             exact ZL (ZA cZ9 (ZA cZ10 (ZA cZ11 cZ12))) trivial
         · cases h
           exact ZL (ZA cZ9 (ZA cZ10 cZ11)) trivial
       · simp only [ZC, A132R2]
         cases h
         exact ZL (ZA cZ9 cZ10) V132.eq_1
     · obtain ⟨rZ14, hrZ14, h⟩ := bind_s h
       refine ZF (ZA cZ9 cZ10) ?_
       refine ZS (ZA cZ9 cZ10) (w_cm _ _ hrZ14) ?_
       refine ZG ?_
       obtain ⟨cZ15, h⟩ | ⟨cZ15, h⟩ := cond_s h
       · obtain ⟨rZ16, hrZ16, h⟩ := bind_s h
         refine ZF (ZA cZ9 (ZA cZ10 cZ15)) ?_
         refine ZS (ZA cZ9 (ZA cZ10 cZ15)) (w_ct _ hrZ16) ?_
         refine ZG ?_
         obtain ⟨cZ17, h⟩ | ⟨cZ17, h⟩ := cond_s h
         · obtain ⟨cZ18, h⟩ | ⟨cZ18, h⟩ := cond_s h
           · obtain ⟨rZ19, hrZ19, h⟩ := bind_s h
             refine ZF (ZA cZ9 (ZA cZ10 (ZA cZ15 (ZA cZ17 cZ18)))) ?_
             refine ZS (ZA cZ9 (ZA cZ10 (ZA cZ15 (ZA cZ17 cZ18)))) (w_cu _ _ hrZ19) ?_
             refine ZG ?_
             obtain ⟨rZ20, hrZ20, h⟩ := bind_s h
             refine ZF (ZA cZ9 (ZA cZ10 (ZA cZ15 (ZA cZ17 cZ18)))) ?_
             refine ZS (ZA cZ9 (ZA cZ10 (ZA cZ15 (ZA cZ17 cZ18)))) (w_cu _ _ hrZ20) ?_
             refine ZG ?_
             obtain ⟨cZ21, h⟩ | ⟨cZ21, h⟩ := cond_s h
             · obtain ⟨rZ22, hrZ22, h⟩ := bind_s h
               refine ZF (ZA cZ9 (ZA cZ10 (ZA cZ15 (ZA cZ17 (ZA cZ18 cZ21))))) ?_
               refine ZS (ZA cZ9 (ZA cZ10 (ZA cZ15 (ZA cZ17 (ZA cZ18 cZ21))))) (w_cv _ _ _ hrZ22) ?_
               refine ZG ?_
               cases h
               exact ZL (ZA cZ9 (ZA cZ10 (ZA cZ15 (ZA cZ17 (ZA cZ18 cZ21))))) V132.eq_1
             · cases h
               exact ZL (ZA cZ9 (ZA cZ10 (ZA cZ15 (ZA cZ17 (ZA cZ18 cZ21))))) V132.eq_1
           · cases h
             exact ZL (ZA cZ9 (ZA cZ10 (ZA cZ15 (ZA cZ17 cZ18)))) V132.eq_1
         · cases h
           exact ZL (ZA cZ9 (ZA cZ10 (ZA cZ15 cZ17))) V132.eq_1
       · cases h
         exact ZL (ZA cZ9 (ZA cZ10 cZ15)) V132.eq_1
def S_ap (rZ0 : TRoute) (groupZ0 : List Int) (v : Int) : St := ⟨[(1, .lst .o 1 (groupZ0.map AV.i)), (2, .pt 2 0 0), (5, .i v)], [(2, .var (.agg [.i rZ0.Start, .lst .o 1 (rZ0.Fibers.map AV.i)]))]⟩
def SX_ap (v : Unit) : St := ⟨[], []⟩
theorem w_ap (rZ0 : TRoute) (groupZ0 : List Int) (sZ1 : Int) (o : Int ⊕ (Unit ⊕ Bool)) (h : M_ap rZ0 groupZ0 sZ1 = some o) : AWP (OkS Tryz.prog) A144L1 (qL [1, 2, 5] [2] (S_ap rZ0 groupZ0) (qS (qX 0 [] [] (SX_ap)) (qR V144 (fun r => .b r))) o) (S_ap rZ0 groupZ0 sZ1) := by
 unfold M_ap at h
 simp only [ZC, S_ap, A144L1]
 obtain ⟨cZ2, h⟩ | ⟨cZ2, h⟩ := cond_s h
 · obtain ⟨yZ3, hyZ3, h⟩ := bind_s h
   obtain ⟨hyZ3a, hyZ3b⟩ := geti_s hyZ3
   obtain ⟨rZ4, hrZ4, h⟩ := bind_s h
   refine ZF (ZA cZ2 (ZA hyZ3a hyZ3b)) ?_
   refine ZS (ZA cZ2 (ZA hyZ3a hyZ3b)) (w_cg _ _ hrZ4) ?_
   refine ZG ?_
   obtain ⟨cZ5, h⟩ | ⟨cZ5, h⟩ := cond_s h
   · cases h
     exact ZL (ZA cZ2 (ZA hyZ3a (ZA hyZ3b cZ5))) V144.eq_1
   · cases h
     exact ZL (ZA cZ2 (ZA hyZ3a (ZA hyZ3b cZ5))) (ZA S_ap.eq_1 SX_ap.eq_1)
 · cases h
   exact ZL cZ2 (ZA S_ap.eq_1 SX_ap.eq_1)
theorem w_ci (rZ0 : TRoute) (groupZ0 : List Int) {r : Bool} (h : M_ci rZ0 groupZ0 = some r) : Ok Tryz.prog 144 [.agg [.i rZ0.Start, .lst .o 1 (rZ0.Fibers.map AV.i)], .lst .o 1 (groupZ0.map AV.i)] ((fun r => .b r) r) := by
 refine ok_of_body hmix m144 rfl ?_
 unfold M_ci at h
 simp only [ZC, A144, V144, body_eq]
 obtain ⟨oZ6, hoZ6, h⟩ := bind_s h
 try refine ZF trivial ?_
 refine join_rule (o := oZ6) (blk_rule sideR (loop_rule (w_ap rZ0 groupZ0) hoZ6 ?_)) (fun vZ7 hv => ?_) (fun xZ8 hv e τ hne hq => ?_)
 · exact ZK (ZA S_ap.eq_1 SX_ap.eq_1)
 · subst hv
   simp only [] at h
   simp only [ZC, SX_ap, A144R2]
   cases h
   exact ZL trivial V144.eq_1
 · subst hv
   simp only [] at h
   obtain ⟨rfl, qZ9⟩ := hq
   cases h
   exact qZ9
theorem w_cw (bZ0 : TBlock) {r : Int} (h : M_cw bZ0 = some r) : Ok Tryz.prog 75 [.agg [.i bZ0.First, .i bZ0.Count]] ((fun r => .i r) r) := by
 refine ok_of_body hmix m75 rfl ?_
 unfold M_cw at h
 simp only [ZC, A75, V75, body_eq]
 obtain ⟨uZ1, huZ1, h⟩ := bind_s h
 have huZ1g := grd_s huZ1
 obtain ⟨uZ2, huZ2, h⟩ := bind_s h
 have huZ2g := grd_s huZ2
 cases h
 exact ZL (ZA huZ1g huZ2g) V75.eq_1
theorem w_bv (aZ0 : TRoute) (xZ0 : TBlock) (bZ0 : TRoute) (yZ0 : TBlock) {r : Bool} (h : M_bv aZ0 xZ0 bZ0 yZ0 = some r) : Ok Tryz.prog 145 [.agg [.i aZ0.Start, .lst .o 1 (aZ0.Fibers.map AV.i)], .agg [.i xZ0.First, .i xZ0.Count], .agg [.i bZ0.Start, .lst .o 1 (bZ0.Fibers.map AV.i)], .agg [.i yZ0.First, .i yZ0.Count]] ((fun r => .b r) r) := by
 refine ok_of_body hmix m145 rfl ?_
 unfold M_bv at h
 simp only [ZC, A145, V145, body_eq]
 obtain ⟨rZ1, hrZ1, h⟩ := bind_s h
 refine ZF trivial ?_
 refine ZS trivial (w_ci _ _ hrZ1) ?_
 refine ZG ?_
 obtain ⟨cZ2, h⟩ | ⟨cZ2, h⟩ := cond_s h
 · obtain ⟨cZ3, h⟩ | ⟨cZ3, h⟩ := cond_s h
   · obtain ⟨cZ4, h⟩ | ⟨cZ4, h⟩ := cond_s h
     · obtain ⟨rZ5, hrZ5, h⟩ := bind_s h
       refine ZF (ZA cZ2 (ZA cZ3 cZ4)) ?_
       refine ZS (ZA cZ2 (ZA cZ3 cZ4)) (w_cw _ hrZ5) ?_
       refine ZG ?_
       obtain ⟨rZ6, hrZ6, h⟩ := bind_s h
       refine ZF (ZA cZ2 (ZA cZ3 cZ4)) ?_
       refine ZS (ZA cZ2 (ZA cZ3 cZ4)) (w_cw _ hrZ6) ?_
       refine ZG ?_
       cases h
       exact ZL (ZA cZ2 (ZA cZ3 cZ4)) V145.eq_1
     · cases h
       exact ZL (ZA cZ2 (ZA cZ3 cZ4)) V145.eq_1
   · cases h
     exact ZL (ZA cZ2 cZ3) V145.eq_1
 · cases h
   exact ZL cZ2 V145.eq_1
theorem w_eg (nZ0 : TNetwork) (aZ0 : TService) (bZ0 : TService) {r : Bool} (h : M_eg nZ0 aZ0 bZ0 = some r) : Ok Tryz.prog 133 [.agg [.lst .o 1 (nZ0.Nodes.map AV.z), .lst .o 4 (nZ0.Fibers.map (e_TFiber .o))], .agg [.i aZ0.Id, .i aZ0.Class, .i aZ0.Work.Start, .lst .o 1 (aZ0.Work.Fibers.map AV.i), .i aZ0.WorkBlock.First, .i aZ0.WorkBlock.Count, .i aZ0.Spare.Start, .lst .o 1 (aZ0.Spare.Fibers.map AV.i), .i aZ0.SpareBlock.First, .i aZ0.SpareBlock.Count], .agg [.i bZ0.Id, .i bZ0.Class, .i bZ0.Work.Start, .lst .o 1 (bZ0.Work.Fibers.map AV.i), .i bZ0.WorkBlock.First, .i bZ0.WorkBlock.Count, .i bZ0.Spare.Start, .lst .o 1 (bZ0.Spare.Fibers.map AV.i), .i bZ0.SpareBlock.First, .i bZ0.SpareBlock.Count]] ((fun r => .b r) r) := by
 refine ok_of_body hmix m133 rfl ?_
 unfold M_eg at h
 simp only [ZC, A133, V133, body_eq]
 obtain ⟨oZ6, hoZ6, h⟩ := bind_s h
 try refine ZF trivial ?_
 refine join_rule0 (sh := (fun v => ⟨[(3, .pt 3 0 0), (4, .pt 4 0 0), (5, .pt 5 0 0), (37, .b v)], [(3, .var (.agg [.lst .o 1 (nZ0.Nodes.map AV.z), .lst .o 4 (nZ0.Fibers.map (e_TFiber .o))])), (4, .var (.agg [.i aZ0.Id, .i aZ0.Class, .i aZ0.Work.Start, .lst .o 1 (aZ0.Work.Fibers.map AV.i), .i aZ0.WorkBlock.First, .i aZ0.WorkBlock.Count, .i aZ0.Spare.Start, .lst .o 1 (aZ0.Spare.Fibers.map AV.i), .i aZ0.SpareBlock.First, .i aZ0.SpareBlock.Count])), (5, .var (.agg [.i bZ0.Id, .i bZ0.Class, .i bZ0.Work.Start, .lst .o 1 (bZ0.Work.Fibers.map AV.i), .i bZ0.WorkBlock.First, .i bZ0.WorkBlock.Count, .i bZ0.Spare.Start, .lst .o 1 (bZ0.Spare.Fibers.map AV.i), .i bZ0.SpareBlock.First, .i bZ0.SpareBlock.Count]))]⟩)) (s := oZ6) ?_ ?_
 · replace h := hoZ6
   obtain ⟨rZ1, hrZ1, h⟩ := bind_s h
   refine ZF trivial ?_
   refine ZS trivial (w_bv _ _ _ _ hrZ1) ?_
   refine ZG ?_
   obtain ⟨cZ2, h⟩ | ⟨cZ2, h⟩ := cond_s h
   · cases h
     exact ZL cZ2 trivial
   · obtain ⟨rZ3, hrZ3, h⟩ := bind_s h
     refine ZF cZ2 ?_
     refine ZS cZ2 (w_bv _ _ _ _ hrZ3) ?_
     refine ZG ?_
     obtain ⟨cZ4, h⟩ | ⟨cZ4, h⟩ := cond_s h
     · cases h
       exact ZL (ZA cZ2 cZ4) trivial
     · obtain ⟨rZ5, hrZ5, h⟩ := bind_s h
       refine ZF (ZA cZ2 cZ4) ?_
       refine ZS (ZA cZ2 cZ4) (w_bv _ _ _ _ hrZ5) ?_
       refine ZG ?_
       cases h
       exact ZL (ZA cZ2 cZ4) trivial
 · simp only [ZC, A133R1]
   obtain ⟨cZ7, h⟩ | ⟨cZ7, h⟩ := cond_s h
   · cases h
     exact ZL cZ7 V133.eq_1
   · obtain ⟨oZ11, hoZ11, h⟩ := bind_s h
     try refine ZF cZ7 ?_
     refine join_rule0 (sh := (fun v => ⟨[(4, .pt 4 0 0), (5, .pt 5 0 0), (53, .b v)], [(4, .var (.agg [.i aZ0.Id, .i aZ0.Class, .i aZ0.Work.Start, .lst .o 1 (aZ0.Work.Fibers.map AV.i), .i aZ0.WorkBlock.First, .i aZ0.WorkBlock.Count, .i aZ0.Spare.Start, .lst .o 1 (aZ0.Spare.Fibers.map AV.i), .i aZ0.SpareBlock.First, .i aZ0.SpareBlock.Count])), (5, .var (.agg [.i bZ0.Id, .i bZ0.Class, .i bZ0.Work.Start, .lst .o 1 (bZ0.Work.Fibers.map AV.i), .i bZ0.WorkBlock.First, .i bZ0.WorkBlock.Count, .i bZ0.Spare.Start, .lst .o 1 (bZ0.Spare.Fibers.map AV.i), .i bZ0.SpareBlock.First, .i bZ0.SpareBlock.Count]))]⟩)) (s := oZ11) ?_ ?_
     · replace h := hoZ11
       obtain ⟨cZ8, h⟩ | ⟨cZ8, h⟩ := cond_s h
       · obtain ⟨cZ9, h⟩ | ⟨cZ9, h⟩ := cond_s h
         · obtain ⟨rZ10, hrZ10, h⟩ := bind_s h
           refine ZF (ZA cZ7 (ZA cZ8 cZ9)) ?_
           refine ZS (ZA cZ7 (ZA cZ8 cZ9)) (w_cv _ _ _ hrZ10) ?_
           refine ZG ?_
           cases h
           exact ZL (ZA cZ7 (ZA cZ8 cZ9)) trivial
         · cases h
           exact ZL (ZA cZ7 (ZA cZ8 cZ9)) trivial
       · cases h
         exact ZL (ZA cZ7 cZ8) trivial
     · simp only [ZC, A133R2]
       obtain ⟨cZ12, h⟩ | ⟨cZ12, h⟩ := cond_s h
       · cases h
         exact ZL (ZA cZ7 cZ12) V133.eq_1
       · obtain ⟨rZ13, hrZ13, h⟩ := bind_s h
         refine ZF (ZA cZ7 cZ12) ?_
         refine ZS (ZA cZ7 cZ12) (w_bv _ _ _ _ hrZ13) ?_
         refine ZG ?_
         cases h
         exact ZL (ZA cZ7 cZ12) V133.eq_1
def S_n (nZ0 : TNetwork) (listZ0 : List TService) (sZ5 : Int) (v : Int) : St := ⟨[(1, .lst .o 10 (listZ0.map (e_TService .o))), (2, .pt 2 0 0), (5, .i sZ5), (6, .i v)], [(2, .var (.agg [.lst .o 1 (nZ0.Nodes.map AV.z), .lst .o 4 (nZ0.Fibers.map (e_TFiber .o))]))]⟩
def SX_n (nZ0 : TNetwork) (listZ0 : List TService) (sZ5 : Int) (v : Unit) : St := ⟨[(1, .lst .o 10 (listZ0.map (e_TService .o))), (2, .pt 2 0 0), (5, .i sZ5)], [(2, .var (.agg [.lst .o 1 (nZ0.Nodes.map AV.z), .lst .o 4 (nZ0.Fibers.map (e_TFiber .o))]))]⟩
theorem w_n (nZ0 : TNetwork) (listZ0 : List TService) (sZ5 : Int) (sZ14 : Int) (o : Int ⊕ (Unit ⊕ Bool)) (h : M_n nZ0 listZ0 sZ5 sZ14 = some o) : AWP (OkS Tryz.prog) A88L3 (qL [1, 2, 5, 6] [2] (S_n nZ0 listZ0 sZ5) (qS (qX 2 [1, 2, 5] [2] (SX_n nZ0 listZ0 sZ5)) (qR V88 (fun r => .b r))) o) (S_n nZ0 listZ0 sZ5 sZ14) := by
 unfold M_n at h
 simp only [ZC, S_n, A88L3]
 obtain ⟨cZ15, h⟩ | ⟨cZ15, h⟩ := cond_s h
 · obtain ⟨yZ16, hyZ16, h⟩ := bind_s h
   obtain ⟨hyZ16a, hyZ16b⟩ := geti_s hyZ16
   obtain ⟨yZ17, hyZ17, h⟩ := bind_s h
   obtain ⟨hyZ17a, hyZ17b⟩ := geti_s hyZ17
   obtain ⟨rZ18, hrZ18, h⟩ := bind_s h
   refine ZF (ZA cZ15 (ZA hyZ16a (ZA hyZ16b (ZA hyZ17a hyZ17b)))) ?_
   refine ZS (ZA cZ15 (ZA hyZ16a (ZA hyZ16b (ZA hyZ17a hyZ17b)))) (w_eg _ _ _ hrZ18) ?_
   refine ZG ?_
   obtain ⟨cZ19, h⟩ | ⟨cZ19, h⟩ := cond_s h
   · cases h
     exact ZL (ZA cZ15 (ZA hyZ16a (ZA hyZ16b (ZA hyZ17a (ZA hyZ17b cZ19))))) V88.eq_1
   · cases h
     exact ZL (ZA cZ15 (ZA hyZ16a (ZA hyZ16b (ZA hyZ17a (ZA hyZ17b cZ19))))) (ZA S_n.eq_1 SX_n.eq_1)
 · cases h
   exact ZL cZ15 (ZA S_n.eq_1 SX_n.eq_1)
def S_aq (nZ0 : TNetwork) (listZ0 : List TService) (v : Int) : St := ⟨[(1, .lst .o 10 (listZ0.map (e_TService .o))), (2, .pt 2 0 0), (5, .i v)], [(2, .var (.agg [.lst .o 1 (nZ0.Nodes.map AV.z), .lst .o 4 (nZ0.Fibers.map (e_TFiber .o))]))]⟩
def SX_aq (v : Unit) : St := ⟨[], []⟩
theorem w_aq (nZ0 : TNetwork) (listZ0 : List TService) (sZ5 : Int) (o : Int ⊕ (Unit ⊕ Bool)) (h : M_aq nZ0 listZ0 sZ5 = some o) : AWP (OkS Tryz.prog) A88L5 (qL [1, 2, 5] [2] (S_aq nZ0 listZ0) (qS (qX 0 [] [] (SX_aq)) (qR V88 (fun r => .b r))) o) (S_aq nZ0 listZ0 sZ5) := by
 unfold M_aq at h
 simp only [ZC, S_aq, A88L5]
 obtain ⟨cZ6, h⟩ | ⟨cZ6, h⟩ := cond_s h
 · obtain ⟨oZ25, hoZ25, h⟩ := bind_s h
   try refine ZF cZ6 ?_
   refine join_rule (sh := (fun v => ⟨[(1, .lst .o 10 (listZ0.map (e_TService .o))), (2, .pt 2 0 0), (5, .i sZ5)], [(2, .var (.agg [.lst .o 1 (nZ0.Nodes.map AV.z), .lst .o 4 (nZ0.Fibers.map (e_TFiber .o))]))]⟩)) (q := (qR V88 (fun r => .b r))) (o := oZ25) ?_ (fun vZ26 hv => ?_) (fun xZ27 hv e τ hne hq => ?_)
   · replace h := hoZ25
     obtain ⟨oZ12, hoZ12, h⟩ := bind_s h
     try refine ZF cZ6 ?_
     refine join_rule0 (sh := (fun v => ⟨[(1, .lst .o 10 (listZ0.map (e_TService .o))), (2, .pt 2 0 0), (5, .i sZ5), (45, .b v)], [(2, .var (.agg [.lst .o 1 (nZ0.Nodes.map AV.z), .lst .o 4 (nZ0.Fibers.map (e_TFiber .o))]))]⟩)) (s := oZ12) ?_ ?_
     · replace h := hoZ12
       obtain ⟨yZ7, hyZ7, h⟩ := bind_s h
       obtain ⟨hyZ7a, hyZ7b⟩ := geti_s hyZ7
       obtain ⟨rZ8, hrZ8, h⟩ := bind_s h
       refine ZF (ZA cZ6 (ZA hyZ7a hyZ7b)) ?_
       refine ZS (ZA cZ6 (ZA hyZ7a hyZ7b)) (w_ef _ _ hrZ8) ?_
       refine ZG ?_
       obtain ⟨cZ9, h⟩ | ⟨cZ9, h⟩ := cond_s h
       · cases h
         exact ZL (ZA cZ6 (ZA hyZ7a (ZA hyZ7b cZ9))) trivial
       · obtain ⟨cZ10, h⟩ | ⟨cZ10, h⟩ := cond_s h
         · obtain ⟨yZ11, hyZ11, h⟩ := bind_s h
           obtain ⟨hyZ11a, hyZ11b⟩ := geti_s hyZ11
           cases h
           exact ZL (ZA cZ6 (ZA hyZ7a (ZA hyZ7b (ZA cZ9 (ZA cZ10 (ZA hyZ11a hyZ11b)))))) trivial
         · cases h
           exact ZL (ZA cZ6 (ZA hyZ7a (ZA hyZ7b (ZA cZ9 cZ10)))) trivial
     · simp only [ZC, A88R2]
       obtain ⟨cZ13, h⟩ | ⟨cZ13, h⟩ := cond_s h
       · cases h
         exact ZL (ZA cZ6 cZ13) V88.eq_1
       · obtain ⟨oZ20, hoZ20, h⟩ := bind_s h
         try refine ZF (ZA cZ6 cZ13) ?_
         first | refine tail_rule (o := oZ20) (blk_rule sideR (loop_rule (w_n nZ0 listZ0 sZ5) hoZ20 ?_)) (fun vZ21 hv τ qZ23 => ?_) (fun xZ22 hv e τ hne hq => ?_) | refine tail_blk (o := oZ20) sideR (loop_rule (w_n nZ0 listZ0 sZ5) hoZ20 ?_) (fun vZ21 hv τ qZ23 => ?_) (fun xZ22 hv e τ hne hq => ?_)
         · exact ZK (ZA S_n.eq_1 SX_n.eq_1)
         · subst hv
           simp only [] at h
           cases h
           try refine ZF trivial ?_
           refine ⟨rfl, Shp.sub qZ23 (by decide) (by decide) ?_⟩
           exact ZK SX_n.eq_1
         · subst hv
           simp only [] at h
           obtain ⟨rfl, qZ24⟩ := hq
           cases h
           try refine ZF trivial ?_
           first | exact ⟨by simp, qZ24⟩ | exact ⟨by simp, rfl, qZ24⟩
   · subst hv
     simp only [] at h
     simp only [ZC, A88R4]
     cases h
     exact ZL cZ6 (ZA S_aq.eq_1 SX_aq.eq_1)
   · subst hv
     simp only [] at h
     obtain ⟨rfl, qZ28⟩ := hq
     cases h
     try refine ZF trivial ?_
     first | exact ⟨by simp, qZ28⟩ | exact ⟨by simp, rfl, qZ28⟩
 · cases h
   exact ZL cZ6 (ZA S_aq.eq_1 SX_aq.eq_1)
theorem w_eh (nZ0 : TNetwork) (listZ0 : List TService) {r : Bool} (h : M_eh nZ0 listZ0 = some r) : Ok Tryz.prog 88 [.agg [.lst .o 1 (nZ0.Nodes.map AV.z), .lst .o 4 (nZ0.Fibers.map (e_TFiber .o))], .lst .o 10 (listZ0.map (e_TService .o))] ((fun r => .b r) r) := by
 refine ok_of_body hmix m88 rfl ?_
 unfold M_eh at h
 simp only [ZC, A88, V88, body_eq]
 obtain ⟨oZ3, hoZ3, h⟩ := bind_s h
 try refine ZF trivial ?_
 refine join_rule0 (sh := (fun v => ⟨[(1, .lst .o 10 (listZ0.map (e_TService .o))), (2, .pt 2 0 0), (14, .b v)], [(2, .var (.agg [.lst .o 1 (nZ0.Nodes.map AV.z), .lst .o 4 (nZ0.Fibers.map (e_TFiber .o))]))]⟩)) (s := oZ3) ?_ ?_
 · replace h := hoZ3
   obtain ⟨rZ1, hrZ1, h⟩ := bind_s h
   refine ZF trivial ?_
   refine ZS trivial (w_cr _ hrZ1) ?_
   refine ZG ?_
   obtain ⟨cZ2, h⟩ | ⟨cZ2, h⟩ := cond_s h
   · cases h
     exact ZL cZ2 trivial
   · cases h
     exact ZL cZ2 trivial
 · simp only [ZC, A88R1]
   obtain ⟨cZ4, h⟩ | ⟨cZ4, h⟩ := cond_s h
   · cases h
     exact ZL cZ4 V88.eq_1
   · obtain ⟨oZ29, hoZ29, h⟩ := bind_s h
     try refine ZF cZ4 ?_
     refine join_rule (o := oZ29) (blk_rule sideR (loop_rule (w_aq nZ0 listZ0) hoZ29 ?_)) (fun vZ30 hv => ?_) (fun xZ31 hv e τ hne hq => ?_)
     · exact ZK (ZA S_aq.eq_1 SX_aq.eq_1)
     · subst hv
       simp only [] at h
       simp only [ZC, SX_aq, A88R6]
       cases h
       exact ZL cZ4 V88.eq_1
     · subst hv
       simp only [] at h
       obtain ⟨rfl, qZ32⟩ := hq
       cases h
       exact qZ32
def S_d (nZ0 : TNetwork) (sZ1 : Int × List (List Int)) (v : Int) : St := ⟨[(1, .pt 1 0 0), (3, .sl 3 0 sZ1.2.length), (4, .i sZ1.1), (5, .i v)], [(1, .var (.agg [.lst .o 1 (nZ0.Nodes.map AV.z), .lst .o 4 (nZ0.Fibers.map (e_TFiber .o))])), (3, .arr 1 (sZ1.2.map (e_Li .u)))]⟩
def SX_d (nZ0 : TNetwork) (sZ1 : Int × List (List Int)) (v : List (List Int)) : St := ⟨[(1, .pt 1 0 0), (3, .sl 3 0 v.length), (4, .i sZ1.1)], [(1, .var (.agg [.lst .o 1 (nZ0.Nodes.map AV.z), .lst .o 4 (nZ0.Fibers.map (e_TFiber .o))])), (3, .arr 1 (v.map (e_Li .u)))]⟩
theorem w_d (nZ0 : TNetwork) (sZ1 : Int × List (List Int)) (sZ3 : Int) (o : Int ⊕ (List (List Int))) (h : M_d nZ0 sZ1 sZ3 = some o) : AWP (OkS Tryz.prog) A128L1 (qL [1, 3, 4, 5] [1, 3] (S_d nZ0 sZ1) (qX 2 [1, 3, 4] [1, 3] (SX_d nZ0 sZ1)) o) (S_d nZ0 sZ1 sZ3) := by
 unfold M_d at h
 simp only [ZC, S_d, A128L1]
 obtain ⟨cZ4, h⟩ | ⟨cZ4, h⟩ := cond_s h
 · obtain ⟨yZ5, hyZ5, h⟩ := bind_s h
   obtain ⟨hyZ5a, hyZ5b⟩ := geti_s hyZ5
   obtain ⟨cZ6, h⟩ | ⟨cZ6, h⟩ := cond_s h
   · obtain ⟨rZ7, hrZ7, h⟩ := bind_s h
     refine ZF (ZA cZ4 (ZA hyZ5a (ZA hyZ5b cZ6))) ?_
     refine ZU (ZA cZ4 (ZA hyZ5a (ZA hyZ5b cZ6))) (w_ch _ _ hrZ7) ?_
     refine ZG ?_
     obtain ⟨lZ8, hlZ8, h⟩ := bnd_s h
     have eZ9 : Row.arr 1 [(.lst .u 1 (rZ7.map AV.i) : AV)] = Row.arr 1 (lZ8.map (e_Li .u)) := by rw [← hlZ8]; rfl
     have jjZ10 : lZ8.length = 1 := by rw [← hlZ8]; rfl
     obtain ⟨uZ11, huZ11, h⟩ := bind_s h
     have huZ11g := grd_s huZ11
     obtain ⟨lZ12, hlZ12, h⟩ := bnd_s h
     have eZ13 : sZ1.2.map (e_Li .u) ++ lZ8.map (e_Li .u) = lZ12.map (e_Li .u) := by rw [← hlZ12, List.map_append]
     have eZ14 : sZ1.2.length + 1 = lZ12.length := by simp [← hlZ8, ← hlZ12] <;> omega
     rw [eZ14] at huZ11g
     cases h
     exact ZL (ZA cZ4 (ZA hyZ5a (ZA hyZ5b (ZA cZ6 (ZA eZ9 (ZA jjZ10 (ZA huZ11g (ZA eZ13 eZ14)))))))) (ZA S_d.eq_1 (ZA SX_d.eq_1 (ZA hlZ8.symm (ZA hlZ12.symm jjZ10))))
   · cases h
     exact ZL (ZA cZ4 (ZA hyZ5a (ZA hyZ5b cZ6))) (ZA S_d.eq_1 SX_d.eq_1)
 · cases h
   exact ZL cZ4 (ZA S_d.eq_1 SX_d.eq_1)
def S_ar (nZ0 : TNetwork) (v : Int × List (List Int)) : St := ⟨[(1, .pt 1 0 0), (3, .sl 3 0 v.2.length), (4, .i v.1)], [(1, .var (.agg [.lst .o 1 (nZ0.Nodes.map AV.z), .lst .o 4 (nZ0.Fibers.map (e_TFiber .o))])), (3, .arr 1 (v.2.map (e_Li .u)))]⟩
def SX_ar (nZ0 : TNetwork) (v : List (List Int)) : St := ⟨[(1, .pt 1 0 0), (3, .sl 3 0 v.length)], [(1, .var (.agg [.lst .o 1 (nZ0.Nodes.map AV.z), .lst .o 4 (nZ0.Fibers.map (e_TFiber .o))])), (3, .arr 1 (v.map (e_Li .u)))]⟩
theorem w_ar (nZ0 : TNetwork) (sZ1 : Int × List (List Int)) (o : (Int × List (List Int)) ⊕ (List (List Int))) (h : M_ar nZ0 sZ1 = some o) : AWP (OkS Tryz.prog) A128L3 (qL [1, 3, 4] [1, 3] (S_ar nZ0) (qX 0 [1, 3] [1, 3] (SX_ar nZ0)) o) (S_ar nZ0 sZ1) := by
 unfold M_ar at h
 simp only [ZC, S_ar, A128L3]
 obtain ⟨cZ2, h⟩ | ⟨cZ2, h⟩ := cond_s h
 · obtain ⟨oZ17, hoZ17, h⟩ := bind_s h
   try refine ZF cZ2 ?_
   refine join_rule0 (sh := (fun v => ⟨[(1, .pt 1 0 0), (3, .sl 3 0 v.length), (4, .i sZ1.1)], [(1, .var (.agg [.lst .o 1 (nZ0.Nodes.map AV.z), .lst .o 4 (nZ0.Fibers.map (e_TFiber .o))])), (3, .arr 1 (v.map (e_Li .u)))]⟩)) (s := oZ17) ?_ ?_
   · replace h := hoZ17
     obtain ⟨oZ15, hoZ15, h⟩ := bind_s h
     try refine ZF cZ2 ?_
     first | refine tail_rule0 (blk_rule0 (loop_rule (w_d nZ0 sZ1) hoZ15 ?_)) (fun τ qZ16 => ?_) | refine tail_blk0 (loop_rule (w_d nZ0 sZ1) hoZ15 ?_) (fun τ qZ16 => ?_)
     · exact ZK (ZA S_d.eq_1 SX_d.eq_1)
     · cases h
       try refine ZF trivial ?_
       refine ⟨rfl, Shp.sub qZ16 (by decide) (by decide) ?_⟩
       exact ZK SX_d.eq_1
   · simp only [ZC, A128R2]
     cases h
     exact ZL cZ2 (ZA S_ar.eq_1 SX_ar.eq_1)
 · cases h
   exact ZL cZ2 (ZA S_ar.eq_1 SX_ar.eq_1)
def S_o (nZ0 : TNetwork) (v : Int × List (List Int)) : St := ⟨[(1, .pt 1 0 0), (3, .sl 3 0 v.2.length), (6, .i v.1)], [(1, .var (.agg [.lst .o 1 (nZ0.Nodes.map AV.z), .lst .o 4 (nZ0.Fibers.map (e_TFiber .o))])), (3, .arr 1 (v.2.map (e_Li .u)))]⟩
def SX_o (v : List (List Int)) : St := ⟨[(3, .sl 3 0 v.length)], [(3, .arr 1 (v.map (e_Li .u)))]⟩
theorem w_o (nZ0 : TNetwork) (sZ19 : Int × List (List Int)) (o : (Int × List (List Int)) ⊕ (List (List Int))) (h : M_o nZ0 sZ19 = some o) : AWP (OkS Tryz.prog) A128L5 (qL [1, 3, 6] [1, 3] (S_o nZ0) (qX 4 [3] [3] (SX_o)) o) (S_o nZ0 sZ19) := by
 unfold M_o at h
 simp only [ZC, S_o, A128L5]
 obtain ⟨cZ20, h⟩ | ⟨cZ20, h⟩ := cond_s h
 · obtain ⟨yZ21, hyZ21, h⟩ := bind_s h
   obtain ⟨hyZ21a, hyZ21b⟩ := geti_s hyZ21
   obtain ⟨cZ22, h⟩ | ⟨cZ22, h⟩ := cond_s h
   · obtain ⟨lZ23, hlZ23, h⟩ := bnd_s h
     have eZ24 : Row.arr 1 [(.i sZ19.1 : AV)] = Row.arr 1 (lZ23.map AV.i) := by rw [← hlZ23]; rfl
     have jjZ25 : lZ23.length = 1 := by rw [← hlZ23]; rfl
     have nZ26 : sub (lZ23.map AV.i) 0 1 = lZ23.map AV.i := sub_n _ (by simp [← hlZ23])
     obtain ⟨lZ27, hlZ27, h⟩ := bnd_s h
     have eZ28 : Row.arr 1 [(.lst .u 1 (lZ23.map AV.i) : AV)] = Row.arr 1 (lZ27.map (e_Li .u)) := by rw [← hlZ27]; rfl
     have jjZ29 : lZ27.length = 1 := by rw [← hlZ27]; rfl
     obtain ⟨uZ30, huZ30, h⟩ := bind_s h
     have huZ30g := grd_s huZ30
     obtain ⟨lZ31, hlZ31, h⟩ := bnd_s h
     have eZ32 : sZ19.2.map (e_Li .u) ++ lZ27.map (e_Li .u) = lZ31.map (e_Li .u) := by rw [← hlZ31, List.map_append]
     have eZ33 : sZ19.2.length + 1 = lZ31.length := by simp [← hlZ23, ← hlZ27, ← hlZ31] <;> omega
     rw [eZ33] at huZ30g
     cases h
     exact ZL (ZA cZ20 (ZA hyZ21a (ZA hyZ21b (ZA cZ22 (ZA eZ24 (ZA jjZ25 (ZA nZ26 (ZA eZ28 (ZA jjZ29 (ZA huZ30g (ZA eZ32 eZ33))))))))))) (ZA S_o.eq_1 (ZA SX_o.eq_1 (ZA hlZ23.symm (ZA hlZ27.symm (ZA hlZ31.symm (ZA jjZ25 jjZ29))))))
   · cases h
     exact ZL (ZA cZ20 (ZA hyZ21a (ZA hyZ21b cZ22))) (ZA S_o.eq_1 SX_o.eq_1)
 · cases h
   exact ZL cZ20 (ZA S_o.eq_1 SX_o.eq_1)
theorem w_cx (nZ0 : TNetwork) {r : List (List Int)} (h : M_cx nZ0 = some r) : Ok Tryz.prog 128 [.agg [.lst .o 1 (nZ0.Nodes.map AV.z), .lst .o 4 (nZ0.Fibers.map (e_TFiber .o))]] ((fun r => .lst .u 1 (r.map (e_Li .u))) r) := by
 refine ok_of_body hmix m128 rfl ?_
 unfold M_cx at h
 simp only [ZC, A128, V128, body_eq]
 obtain ⟨oZ18, hoZ18, h⟩ := bind_s h
 try refine ZF trivial ?_
 refine join_rule0 (blk_rule0 (loop_rule (w_ar nZ0) hoZ18 ?_)) ?_
 · exact ZK (ZA S_ar.eq_1 SX_ar.eq_1)
 · simp only [ZC, SX_ar, A128R4]
   obtain ⟨oZ34, hoZ34, h⟩ := bind_s h
   try refine ZF trivial ?_
   refine join_rule0 (blk_rule0 (loop_rule (w_o nZ0) hoZ34 ?_)) ?_
   · exact ZK (ZA S_o.eq_1 SX_o.eq_1)
   · simp only [ZC, SX_o, A128R6]
     cases h
     exact ZL trivial V128.eq_1
def S_as (lZ0 : List Int) (loZ0 : Int) (hiZ0 : Int) (v : Int) : St := ⟨[(0, .lst .o 1 (lZ0.map AV.i)), (1, .i loZ0), (2, .i hiZ0), (7, .i v)], []⟩
def SX_as (v : Unit) : St := ⟨[], []⟩
theorem w_as (lZ0 : List Int) (loZ0 : Int) (hiZ0 : Int) (sZ1 : Int) (o : Int ⊕ (Unit ⊕ Bool)) (h : M_as lZ0 loZ0 hiZ0 sZ1 = some o) : AWP (OkS Tryz.prog) A143L2 (qL [0, 1, 2, 7] [] (S_as lZ0 loZ0 hiZ0) (qS (qX 0 [] [] (SX_as)) (qR V143 (fun r => .b r))) o) (S_as lZ0 loZ0 hiZ0 sZ1) := by
 unfold M_as at h
 simp only [ZC, S_as, A143L2]
 obtain ⟨cZ2, h⟩ | ⟨cZ2, h⟩ := cond_s h
 · obtain ⟨oZ8, hoZ8, h⟩ := bind_s h
   try refine ZF cZ2 ?_
   refine join_rule0 (sh := (fun v => ⟨[(0, .lst .o 1 (lZ0.map AV.i)), (1, .i loZ0), (2, .i hiZ0), (7, .i sZ1), (37, .b v)], []⟩)) (s := oZ8) ?_ ?_
   · replace h := hoZ8
     obtain ⟨yZ3, hyZ3, h⟩ := bind_s h
     obtain ⟨hyZ3a, hyZ3b⟩ := geti_s hyZ3
     obtain ⟨rZ4, hrZ4, h⟩ := bind_s h
     refine ZF (ZA cZ2 (ZA hyZ3a hyZ3b)) ?_
     refine ZS (ZA cZ2 (ZA hyZ3a hyZ3b)) (w_a _ _ _ hrZ4) ?_
     refine ZG ?_
     obtain ⟨cZ5, h⟩ | ⟨cZ5, h⟩ := cond_s h
     · cases h
       exact ZL (ZA cZ2 (ZA hyZ3a (ZA hyZ3b cZ5))) trivial
     · obtain ⟨cZ6, h⟩ | ⟨cZ6, h⟩ := cond_s h
       · obtain ⟨yZ7, hyZ7, h⟩ := bind_s h
         obtain ⟨hyZ7a, hyZ7b⟩ := geti_s hyZ7
         cases h
         exact ZL (ZA cZ2 (ZA hyZ3a (ZA hyZ3b (ZA cZ5 (ZA cZ6 (ZA hyZ7a hyZ7b)))))) trivial
       · cases h
         exact ZL (ZA cZ2 (ZA hyZ3a (ZA hyZ3b (ZA cZ5 cZ6)))) trivial
   · simp only [ZC, A143R1]
     obtain ⟨cZ9, h⟩ | ⟨cZ9, h⟩ := cond_s h
     · cases h
       exact ZL (ZA cZ2 cZ9) V143.eq_1
     · cases h
       exact ZL (ZA cZ2 cZ9) (ZA S_as.eq_1 SX_as.eq_1)
 · cases h
   exact ZL cZ2 (ZA S_as.eq_1 SX_as.eq_1)
theorem w_ei (lZ0 : List Int) (loZ0 : Int) (hiZ0 : Int) {r : Bool} (h : M_ei lZ0 loZ0 hiZ0 = some r) : Ok Tryz.prog 143 [.lst .o 1 (lZ0.map AV.i), .i loZ0, .i hiZ0] ((fun r => .b r) r) := by
 refine ok_of_body hmix m143 rfl ?_
 unfold M_ei at h
 simp only [ZC, A143, V143, body_eq]
 obtain ⟨oZ10, hoZ10, h⟩ := bind_s h
 try refine ZF trivial ?_
 refine join_rule (o := oZ10) (blk_rule sideR (loop_rule (w_as lZ0 loZ0 hiZ0) hoZ10 ?_)) (fun vZ11 hv => ?_) (fun xZ12 hv e τ hne hq => ?_)
 · exact ZK (ZA S_as.eq_1 SX_as.eq_1)
 · subst hv
   simp only [] at h
   simp only [ZC, SX_as, A143R3]
   cases h
   exact ZL trivial V143.eq_1
 · subst hv
   simp only [] at h
   obtain ⟨rfl, qZ13⟩ := hq
   cases h
   exact qZ13
theorem w_ej (nZ0 : TNetwork) (listZ0 : List TService) (groupsZ0 : List Int) {r : Bool} (h : M_ej nZ0 listZ0 groupsZ0 = some r) : Ok Tryz.prog 71 [.agg [.lst .o 1 (nZ0.Nodes.map AV.z), .lst .o 4 (nZ0.Fibers.map (e_TFiber .o))], .lst .o 10 (listZ0.map (e_TService .o)), .lst .o 1 (groupsZ0.map AV.i)] ((fun r => .b r) r) := by
 refine ok_of_body hmix m71 rfl ?_
 unfold M_ej at h
 simp only [ZC, A71, V71, body_eq]
 obtain ⟨rZ1, hrZ1, h⟩ := bind_s h
 refine ZF trivial ?_
 refine ZS trivial (w_eh _ _ hrZ1) ?_
 refine ZG ?_
 obtain ⟨cZ2, h⟩ | ⟨cZ2, h⟩ := cond_s h
 · obtain ⟨rZ3, hrZ3, h⟩ := bind_s h
   refine ZF cZ2 ?_
   refine ZU cZ2 (w_cx _ hrZ3) ?_
   refine ZG ?_
   obtain ⟨rZ4, hrZ4, h⟩ := bind_s h
   refine ZF cZ2 ?_
   refine ZS cZ2 (w_ei _ _ _ hrZ4) ?_
   refine ZG ?_
   cases h
   exact ZL cZ2 V71.eq_1
 · cases h
   exact ZL cZ2 V71.eq_1
def S_at (listZ0 : List TService) (ratesZ0 : List Int) (v : Int) : St := ⟨[(0, .lst .o 10 (listZ0.map (e_TService .o))), (1, .lst .o 1 (ratesZ0.map AV.i)), (5, .i v)], []⟩
def SX_at (listZ0 : List TService) (ratesZ0 : List Int) (v : Unit) : St := ⟨[(0, .lst .o 10 (listZ0.map (e_TService .o))), (1, .lst .o 1 (ratesZ0.map AV.i))], []⟩
theorem w_at (listZ0 : List TService) (ratesZ0 : List Int) (sZ1 : Int) (o : Int ⊕ (Unit ⊕ Bool)) (h : M_at ratesZ0 sZ1 = some o) : AWP (OkS Tryz.prog) A106L1 (qL [0, 1, 5] [] (S_at listZ0 ratesZ0) (qS (qX 0 [0, 1] [] (SX_at listZ0 ratesZ0)) (qR V106 (fun r => .b r))) o) (S_at listZ0 ratesZ0 sZ1) := by
 unfold M_at at h
 simp only [ZC, S_at, A106L1]
 obtain ⟨cZ2, h⟩ | ⟨cZ2, h⟩ := cond_s h
 · obtain ⟨yZ3, hyZ3, h⟩ := bind_s h
   obtain ⟨hyZ3a, hyZ3b⟩ := geti_s hyZ3
   obtain ⟨rZ4, hrZ4, h⟩ := bind_s h
   refine ZF (ZA cZ2 (ZA hyZ3a hyZ3b)) ?_
   refine ZS (ZA cZ2 (ZA hyZ3a hyZ3b)) (w_a _ _ _ hrZ4) ?_
   refine ZG ?_
   obtain ⟨cZ5, h⟩ | ⟨cZ5, h⟩ := cond_s h
   · cases h
     exact ZL (ZA cZ2 (ZA hyZ3a (ZA hyZ3b cZ5))) V106.eq_1
   · cases h
     exact ZL (ZA cZ2 (ZA hyZ3a (ZA hyZ3b cZ5))) (ZA S_at.eq_1 SX_at.eq_1)
 · cases h
   exact ZL cZ2 (ZA S_at.eq_1 SX_at.eq_1)
theorem w_ek (listZ0 : List TService) (ratesZ0 : List Int) {r : Bool} (h : M_ek listZ0 ratesZ0 = some r) : Ok Tryz.prog 106 [.lst .o 10 (listZ0.map (e_TService .o)), .lst .o 1 (ratesZ0.map AV.i)] ((fun r => .b r) r) := by
 refine ok_of_body hmix m106 rfl ?_
 unfold M_ek at h
 simp only [ZC, A106, V106, body_eq]
 obtain ⟨oZ6, hoZ6, h⟩ := bind_s h
 try refine ZF trivial ?_
 refine join_rule (o := oZ6) (blk_rule sideR (loop_rule (w_at listZ0 ratesZ0) hoZ6 ?_)) (fun vZ7 hv => ?_) (fun xZ8 hv e τ hne hq => ?_)
 · exact ZK (ZA S_at.eq_1 SX_at.eq_1)
 · subst hv
   simp only [] at h
   simp only [ZC, SX_at, A106R2]
   cases h
   exact ZL trivial V106.eq_1
 · subst hv
   simp only [] at h
   obtain ⟨rfl, qZ9⟩ := hq
   cases h
   exact qZ9
theorem w_fy (lZ0 : List Int) {r : List Int} (h : M_fy lZ0 = some r) : Ok Tryz.prog 107 [.lst .o 1 (lZ0.map AV.i)] ((fun r => .lst .u 1 (r.map AV.i)) r) := by
 refine ok_of_body hmix m107 rfl ?_
 unfold M_fy at h
 simp only [ZC, A107, V107, body_eq]
 obtain ⟨uZ1, huZ1, h⟩ := bind_s h
 have huZ1g := grd_s huZ1
 cases h
 exact ZL huZ1g V107.eq_1
def S_g (groupsZ0 : List Int) (gZ0 : Int) (v : Int × List Int) : St := ⟨[(0, .lst .o 1 (groupsZ0.map AV.i)), (1, .i gZ0), (5, .sl 5 0 v.2.length), (6, .i v.1)], [(5, .arr 1 (v.2.map AV.i))]⟩
def SX_g (v : List Int) : St := ⟨[(5, .sl 5 0 v.length)], [(5, .arr 1 (v.map AV.i))]⟩
theorem w_g (groupsZ0 : List Int) (gZ0 : Int) (sZ1 : Int × List Int) (o : (Int × List Int) ⊕ (List Int)) (h : M_g groupsZ0 gZ0 sZ1 = some o) : AWP (OkS Tryz.prog) A109L1 (qL [0, 1, 5, 6] [5] (S_g groupsZ0 gZ0) (qX 0 [5] [5] (SX_g)) o) (S_g groupsZ0 gZ0 sZ1) := by
 unfold M_g at h
 simp only [ZC, S_g, A109L1]
 obtain ⟨cZ2, h⟩ | ⟨cZ2, h⟩ := cond_s h
 · obtain ⟨yZ3, hyZ3, h⟩ := bind_s h
   obtain ⟨hyZ3a, hyZ3b⟩ := geti_s hyZ3
   obtain ⟨cZ4, h⟩ | ⟨cZ4, h⟩ := cond_s h
   · obtain ⟨lZ5, hlZ5, h⟩ := bnd_s h
     have eZ6 : Row.arr 1 [(.i yZ3 : AV)] = Row.arr 1 (lZ5.map AV.i) := by rw [← hlZ5]; rfl
     have jjZ7 : lZ5.length = 1 := by rw [← hlZ5]; rfl
     obtain ⟨uZ8, huZ8, h⟩ := bind_s h
     have huZ8g := grd_s huZ8
     obtain ⟨lZ9, hlZ9, h⟩ := bnd_s h
     have eZ10 : sZ1.2.map AV.i ++ lZ5.map AV.i = lZ9.map AV.i := by rw [← hlZ9, List.map_append]
     have eZ11 : sZ1.2.length + 1 = lZ9.length := by simp [← hlZ5, ← hlZ9] <;> omega
     rw [eZ11] at huZ8g
     cases h
     exact ZL (ZA cZ2 (ZA hyZ3a (ZA hyZ3b (ZA cZ4 (ZA eZ6 (ZA jjZ7 (ZA huZ8g (ZA eZ10 eZ11)))))))) (ZA S_g.eq_1 (ZA SX_g.eq_1 (ZA hlZ5.symm (ZA hlZ9.symm jjZ7))))
   · cases h
     exact ZL (ZA cZ2 (ZA hyZ3a (ZA hyZ3b cZ4))) (ZA S_g.eq_1 SX_g.eq_1)
 · cases h
   exact ZL cZ2 (ZA S_g.eq_1 SX_g.eq_1)
theorem w_cj (groupsZ0 : List Int) (gZ0 : Int) {r : List Int} (h : M_cj groupsZ0 gZ0 = some r) : Ok Tryz.prog 109 [.lst .o 1 (groupsZ0.map AV.i), .i gZ0] ((fun r => .lst .u 1 (r.map AV.i)) r) := by
 refine ok_of_body hmix m109 rfl ?_
 unfold M_cj at h
 simp only [ZC, A109, V109, body_eq]
 obtain ⟨oZ12, hoZ12, h⟩ := bind_s h
 try refine ZF trivial ?_
 refine join_rule0 (blk_rule0 (loop_rule (w_g groupsZ0 gZ0) hoZ12 ?_)) ?_
 · exact ZK (ZA S_g.eq_1 SX_g.eq_1)
 · simp only [ZC, SX_g, A109R2]
   cases h
   exact ZL trivial V109.eq_1
def S_p (aaZ0 : Int) (abZ0 : List Int) (v : Int) : St := ⟨[(0, .sl 1000000000 0 abZ0.length), (1, .i aaZ0), (5, .i v)], [(1000000000, .arr 1 (abZ0.map AV.i))]⟩
def SX_p (aaZ0 : Int) (abZ0 : List Int) (v : Int) : St := ⟨[(0, .sl 1000000000 0 abZ0.length), (1, .i aaZ0), (5, .i v)], [(1000000000, .arr 1 (abZ0.map AV.i))]⟩
theorem w_p (aaZ0 : Int) (abZ0 : List Int) (sZ1 : Int) (o : Int ⊕ Int) (h : M_p aaZ0 abZ0 sZ1 = some o) : AWP (OkS Tryz.prog) A146M1L1 (qL [0, 1, 5] [1000000000] (S_p aaZ0 abZ0) (qX 0 [0, 1, 5] [1000000000] (SX_p aaZ0 abZ0)) o) (S_p aaZ0 abZ0 sZ1) := by
 unfold M_p at h
 simp only [ZC, S_p, A146M1L1]
 obtain ⟨cZ2, h⟩ | ⟨cZ2, h⟩ := cond_s h
 · obtain ⟨kZ3, hkZ3, h⟩ := bind_s h
   obtain ⟨hkZ3a, hkZ3b⟩ := grd_s hkZ3
   obtain ⟨yZ4, hyZ4, h⟩ := bind_s h
   obtain ⟨cZ5, h⟩ | ⟨cZ5, h⟩ := cond_s h
   · cases h
     exact ZL (ZA cZ2 (ZA hkZ3a (ZA hkZ3b (ZA hyZ4 cZ5)))) (ZA S_p.eq_1 SX_p.eq_1)
   · cases h
     exact ZL (ZA cZ2 (ZA hkZ3a (ZA hkZ3b (ZA hyZ4 cZ5)))) (ZA S_p.eq_1 SX_p.eq_1)
 · cases h
   exact ZL cZ2 (ZA S_p.eq_1 SX_p.eq_1)
theorem w_el (aaZ0 : Int) (abZ0 : List Int) {r : List Int} (h : M_el aaZ0 abZ0 = some r) : OkM Tryz.prog 146 [.sl 1000000000 0 abZ0.length, .i aaZ0] [(1000000000, .arr 1 (abZ0.map AV.i))] ((fun (r : List Int) => .sl 4 0 r.length) r) ((fun (r : List Int) => [(4, .arr 1 (r.map AV.i))]) r) := by
 refine okM_of_body (lr := [4]) hmix m146M1 rfl rfl ?_
 unfold M_el at h
 simp only [ZC, A146M1, V146M1]
 obtain ⟨oZ6, hoZ6, h⟩ := bind_s h
 try refine ZF trivial ?_
 refine join_rule0 (blk_rule0 (loop_rule (w_p aaZ0 abZ0) hoZ6 ?_)) ?_
 · exact ZK (ZA S_p.eq_1 SX_p.eq_1)
 · simp only [ZC, SX_p, A146M1R2]
   obtain ⟨oZ10, hoZ10, h⟩ := bind_s h
   try refine ZF trivial ?_
   refine join_rule0 (sh := (fun v => ⟨[(0, .sl 1000000000 0 abZ0.length), (1, .i aaZ0), (5, .i oZ6), (31, .b v)], [(1000000000, .arr 1 (abZ0.map AV.i))]⟩)) (s := oZ10) ?_ ?_
   · replace h := hoZ10
     obtain ⟨cZ7, h⟩ | ⟨cZ7, h⟩ := cond_s h
     · obtain ⟨kZ8, hkZ8, h⟩ := bind_s h
       obtain ⟨hkZ8a, hkZ8b⟩ := grd_s hkZ8
       obtain ⟨yZ9, hyZ9, h⟩ := bind_s h
       cases h
       exact ZL (ZA cZ7 (ZA hkZ8a (ZA hkZ8b hyZ9))) trivial
     · cases h
       exact ZL cZ7 trivial
   · simp only [ZC, A146M1R3]
     obtain ⟨cZ11, h⟩ | ⟨cZ11, h⟩ := cond_s h
     · cases h
       exact ZL cZ11 V146M1.eq_1
     · obtain ⟨uZ12, huZ12, h⟩ := bind_s h
       obtain ⟨huZ12a, huZ12b, huZ12c, huZ12d⟩ := grd_s huZ12
       obtain ⟨lZ13, hlZ13, h⟩ := bnd_s h
       have eZ14 : sub (abZ0.map AV.i) 0 (Int.toNat oZ6) = lZ13.map AV.i := by rw [sub_mapT, hlZ13]
       obtain ⟨uZ15, huZ15, h⟩ := bind_s h
       have huZ15g := grd_s huZ15
       obtain ⟨lZ16, hlZ16, h⟩ := bnd_s h
       have eZ17 : Row.arr 1 [(.i aaZ0 : AV)] = Row.arr 1 (lZ16.map AV.i) := by rw [← hlZ16]; rfl
       have jjZ18 : lZ16.length = 1 := by rw [← hlZ16]; rfl
       obtain ⟨uZ19, huZ19, h⟩ := bind_s h
       have huZ19g := grd_s huZ19
       obtain ⟨lZ20, hlZ20, h⟩ := bnd_s h
       have eZ21 : lZ13.map AV.i ++ lZ16.map AV.i = lZ20.map AV.i := by rw [← hlZ20, List.map_append]
       have eZ22 : lZ13.length + 1 = lZ20.length := by simp [← hlZ16, ← hlZ20] <;> omega
       rw [eZ22] at huZ19g
       obtain ⟨uZ23, huZ23, h⟩ := bind_s h
       obtain ⟨huZ23a, huZ23b, huZ23c, huZ23d⟩ := grd_s huZ23
       obtain ⟨lZ24, hlZ24, h⟩ := bnd_s h
       have eZ25 : sub (abZ0.map AV.i) (Int.toNat oZ6) (abZ0.length - (Int.toNat oZ6)) = lZ24.map AV.i := by rw [sub_mapT, hlZ24]
       obtain ⟨uZ26, huZ26, h⟩ := bind_s h
       have huZ26g := grd_s huZ26
       obtain ⟨lZ27, hlZ27, h⟩ := bnd_s h
       have eZ28 : lZ20.map AV.i ++ lZ24.map AV.i = lZ27.map AV.i := by rw [← hlZ27, List.map_append]
       have eZ29 : lZ20.length + lZ24.length = lZ27.length := by simp [← hlZ16, ← hlZ20, ← hlZ27] <;> omega
       rw [eZ29] at huZ26g
       cases h
       exact ZL (ZA cZ11 (ZA huZ12a (ZA huZ12b (ZA huZ12c (ZA huZ12d (ZA eZ14 (ZA huZ15g (ZA eZ17 (ZA jjZ18 (ZA huZ19g (ZA eZ21 (ZA eZ22 (ZA huZ23a (ZA huZ23b (ZA huZ23c (ZA huZ23d (ZA eZ25 (ZA huZ26g (ZA eZ28 eZ29))))))))))))))))))) (ZA V146M1.eq_1 (ZA hlZ16.symm (ZA hlZ20.symm (ZA hlZ27.symm jjZ18))))
def S_aa (groupsZ0 : List Int) (rZ1 : List (List Int)) (sZ2 : Int × List Int) (v : Int × List Int) : St := ⟨[(1, .lst .o 1 (groupsZ0.map AV.i)), (5, .sl 5 0 rZ1.length), (6, .sl 6 0 v.2.length), (7, .i sZ2.1), (8, .i v.1)], [(5, .arr 1 (rZ1.map (e_Li .u))), (6, .arr 1 (v.2.map AV.i))]⟩
def SX_aa (groupsZ0 : List Int) (rZ1 : List (List Int)) (sZ2 : Int × List Int) (v : List Int) : St := ⟨[(1, .lst .o 1 (groupsZ0.map AV.i)), (5, .sl 5 0 rZ1.length), (6, .sl 6 0 v.length), (7, .i sZ2.1)], [(5, .arr 1 (rZ1.map (e_Li .u))), (6, .arr 1 (v.map AV.i))]⟩
theorem w_aa (groupsZ0 : List Int) (rZ1 : List (List Int)) (sZ2 : Int × List Int) (sZ4 : Int × List Int) (o : (Int × List Int) ⊕ (List Int)) (h : M_aa groupsZ0 rZ1 sZ2 sZ4 = some o) : AWP (OkS Tryz.prog) A73L1 (qL [1, 5, 6, 7, 8] [5, 6] (S_aa groupsZ0 rZ1 sZ2) (qX 2 [1, 5, 6, 7] [5, 6] (SX_aa groupsZ0 rZ1 sZ2)) o) (S_aa groupsZ0 rZ1 sZ2 sZ4) := by
 unfold M_aa at h
 simp only [ZC, S_aa, A73L1]
 obtain ⟨yZ5, hyZ5, h⟩ := bind_s h
 obtain ⟨hyZ5a, hyZ5b⟩ := geti_s hyZ5
 obtain ⟨kZ6, hkZ6, h⟩ := bind_s h
 obtain ⟨hkZ6a, hkZ6b⟩ := grd_s hkZ6
 obtain ⟨yZ7, hyZ7, h⟩ := bind_s h
 obtain ⟨cZ8, h⟩ | ⟨cZ8, h⟩ := cond_s h
 · obtain ⟨yZ9, hyZ9, h⟩ := bind_s h
   obtain ⟨hyZ9a, hyZ9b⟩ := geti_s hyZ9
   obtain ⟨rZ10, hrZ10, h⟩ := bind_s h
   refine ZF (ZA hyZ5a (ZA hyZ5b (ZA hkZ6a (ZA hkZ6b (ZA hyZ7 (ZA cZ8 (ZA hyZ9a hyZ9b))))))) ?_
   refine ZW (ZA hyZ5a (ZA hyZ5b (ZA hkZ6a (ZA hkZ6b (ZA hyZ7 (ZA cZ8 (ZA hyZ9a hyZ9b))))))) (w_el _ _ hrZ10) (h2 := by first | exact nm_ok [4] rfl (by decide +kernel) | exact nm_ok2 [4] [4200004] rfl (by decide +kernel) ZQ | exact ZQ) (hk := ?_)
   refine ZG ?_
   cases h
   exact ZL (ZA hyZ5a (ZA hyZ5b (ZA hkZ6a (ZA hkZ6b (ZA hyZ7 (ZA cZ8 (ZA hyZ9a hyZ9b))))))) (ZA S_aa.eq_1 SX_aa.eq_1)
 · cases h
   exact ZL (ZA hyZ5a (ZA hyZ5b (ZA hkZ6a (ZA hkZ6b (ZA hyZ7 cZ8))))) (ZA S_aa.eq_1 SX_aa.eq_1)
def S_au (groupsZ0 : List Int) (rZ1 : List (List Int)) (v : Int × List Int) : St := ⟨[(1, .lst .o 1 (groupsZ0.map AV.i)), (5, .sl 5 0 rZ1.length), (6, .sl 6 0 v.2.length), (7, .i v.1)], [(5, .arr 1 (rZ1.map (e_Li .u))), (6, .arr 1 (v.2.map AV.i))]⟩
def SX_au (v : List Int) : St := ⟨[(6, .sl 6 0 v.length)], [(6, .arr 1 (v.map AV.i))]⟩
theorem w_au (groupsZ0 : List Int) (rZ1 : List (List Int)) (sZ2 : Int × List Int) (o : (Int × List Int) ⊕ (List Int)) (h : M_au groupsZ0 rZ1 sZ2 = some o) : AWP (OkS Tryz.prog) A73L3 (qL [1, 5, 6, 7] [5, 6] (S_au groupsZ0 rZ1) (qX 0 [6] [6] (SX_au)) o) (S_au groupsZ0 rZ1 sZ2) := by
 unfold M_au at h
 simp only [ZC, S_au, A73L3]
 obtain ⟨cZ3, h⟩ | ⟨cZ3, h⟩ := cond_s h
 · obtain ⟨oZ13, hoZ13, h⟩ := bind_s h
   try refine ZF cZ3 ?_
   refine join_rule0 (sh := (fun v => ⟨[(1, .lst .o 1 (groupsZ0.map AV.i)), (5, .sl 5 0 rZ1.length), (6, .sl 6 0 v.length), (7, .i sZ2.1)], [(5, .arr 1 (rZ1.map (e_Li .u))), (6, .arr 1 (v.map AV.i))]⟩)) (s := oZ13) ?_ ?_
   · replace h := hoZ13
     obtain ⟨oZ11, hoZ11, h⟩ := bind_s h
     try refine ZF cZ3 ?_
     first | refine tail_rule0 (blk_rule0 (loop_rule (w_aa groupsZ0 rZ1 sZ2) hoZ11 ?_)) (fun τ qZ12 => ?_) | refine tail_blk0 (loop_rule (w_aa groupsZ0 rZ1 sZ2) hoZ11 ?_) (fun τ qZ12 => ?_)
     · exact ZK (ZA S_aa.eq_1 SX_aa.eq_1)
     · cases h
       try refine ZF trivial ?_
       refine ⟨rfl, Shp.sub qZ12 (by decide) (by decide) ?_⟩
       exact ZK SX_aa.eq_1
   · simp only [ZC, A73R2]
     cases h
     exact ZL cZ3 (ZA S_au.eq_1 SX_au.eq_1)
 · cases h
   exact ZL cZ3 (ZA S_au.eq_1 SX_au.eq_1)
theorem w_em (nZ0 : TNetwork) (groupsZ0 : List Int) {r : List Int} (h : M_em nZ0 groupsZ0 = some r) : Ok Tryz.prog 73 [.agg [.lst .o 1 (nZ0.Nodes.map AV.z), .lst .o 4 (nZ0.Fibers.map (e_TFiber .o))], .lst .o 1 (groupsZ0.map AV.i)] ((fun r => .lst .u 1 (r.map AV.i)) r) := by
 refine ok_of_body hmix m73 rfl ?_
 unfold M_em at h
 simp only [ZC, A73, V73, body_eq]
 obtain ⟨rZ1, hrZ1, h⟩ := bind_s h
 refine ZF trivial ?_
 refine ZU trivial (w_cx _ hrZ1) ?_
 refine ZG ?_
 obtain ⟨oZ14, hoZ14, h⟩ := bind_s h
 try refine ZF trivial ?_
 refine join_rule0 (blk_rule0 (loop_rule (w_au groupsZ0 rZ1) hoZ14 ?_)) ?_
 · exact ZK (ZA S_au.eq_1 SX_au.eq_1)
 · simp only [ZC, SX_au, A73R4]
   cases h
   exact ZL trivial V73.eq_1
def S_h (listZ0 : List TService) (rZ1 : List Int) (sZ2 : Int × List Int) (yZ4 : TService) (v : Int × Int) : St := ⟨[(1, .lst .o 10 (listZ0.map (e_TService .o))), (7, .sl 7 0 rZ1.length), (8, .sl 8 0 sZ2.2.length), (9, .i sZ2.1), (10, .pt 10 0 0), (13, .i v.1), (14, .i v.2)], [(7, .arr 1 (rZ1.map AV.i)), (8, .arr 1 (sZ2.2.map AV.i)), (10, .var (.agg [.i yZ4.Id, .i yZ4.Class, .i yZ4.Work.Start, .lst .o 1 (yZ4.Work.Fibers.map AV.i), .i yZ4.WorkBlock.First, .i yZ4.WorkBlock.Count, .i yZ4.Spare.Start, .lst .o 1 (yZ4.Spare.Fibers.map AV.i), .i yZ4.SpareBlock.First, .i yZ4.SpareBlock.Count]))]⟩
def SX_h (listZ0 : List TService) (rZ1 : List Int) (sZ2 : Int × List Int) (v : Int) : St := ⟨[(1, .lst .o 10 (listZ0.map (e_TService .o))), (7, .sl 7 0 rZ1.length), (8, .sl 8 0 sZ2.2.length), (9, .i sZ2.1), (13, .i v)], [(7, .arr 1 (rZ1.map AV.i)), (8, .arr 1 (sZ2.2.map AV.i))]⟩
theorem w_h (listZ0 : List TService) (rZ1 : List Int) (sZ2 : Int × List Int) (yZ4 : TService) (sZ19 : Int × Int) (o : (Int × Int) ⊕ Int) (h : M_h listZ0 sZ2 yZ4 sZ19 = some o) : AWP (OkS Tryz.prog) A72L3 (qL [1, 7, 8, 9, 10, 13, 14] [7, 8, 10] (S_h listZ0 rZ1 sZ2 yZ4) (qX 3 [1, 7, 8, 9, 13] [7, 8] (SX_h listZ0 rZ1 sZ2)) o) (S_h listZ0 rZ1 sZ2 yZ4 sZ19) := by
 unfold M_h at h
 simp only [ZC, S_h, A72L3]
 obtain ⟨cZ20, h⟩ | ⟨cZ20, h⟩ := cond_s h
 · obtain ⟨oZ26, hoZ26, h⟩ := bind_s h
   try refine ZF cZ20 ?_
   refine join_rule0 (sh := (fun v => ⟨[(1, .lst .o 10 (listZ0.map (e_TService .o))), (7, .sl 7 0 rZ1.length), (8, .sl 8 0 sZ2.2.length), (9, .i sZ2.1), (10, .pt 10 0 0), (13, .i sZ19.1), (14, .i sZ19.2), (81, .b v)], [(7, .arr 1 (rZ1.map AV.i)), (8, .arr 1 (sZ2.2.map AV.i)), (10, .var (.agg [.i yZ4.Id, .i yZ4.Class, .i yZ4.Work.Start, .lst .o 1 (yZ4.Work.Fibers.map AV.i), .i yZ4.WorkBlock.First, .i yZ4.WorkBlock.Count, .i yZ4.Spare.Start, .lst .o 1 (yZ4.Spare.Fibers.map AV.i), .i yZ4.SpareBlock.First, .i yZ4.SpareBlock.Count]))]⟩)) (s := oZ26) ?_ ?_
   · replace h := hoZ26
     obtain ⟨kZ21, hkZ21, h⟩ := bind_s h
     obtain ⟨hkZ21a, hkZ21b⟩ := grd_s hkZ21
     obtain ⟨yZ22, hyZ22, h⟩ := bind_s h
     obtain ⟨cZ23, h⟩ | ⟨cZ23, h⟩ := cond_s h
     · obtain ⟨yZ24, hyZ24, h⟩ := bind_s h
       obtain ⟨hyZ24a, hyZ24b⟩ := geti_s hyZ24
       obtain ⟨rZ25, hrZ25, h⟩ := bind_s h
       refine ZF (ZA cZ20 (ZA hkZ21a (ZA hkZ21b (ZA hyZ22 (ZA cZ23 (ZA hyZ24a hyZ24b)))))) ?_
       refine ZS (ZA cZ20 (ZA hkZ21a (ZA hkZ21b (ZA hyZ22 (ZA cZ23 (ZA hyZ24a hyZ24b)))))) (w_bv _ _ _ _ hrZ25) ?_
       refine ZG ?_
       cases h
       exact ZL (ZA cZ20 (ZA hkZ21a (ZA hkZ21b (ZA hyZ22 (ZA cZ23 (ZA hyZ24a hyZ24b)))))) trivial
     · cases h
       exact ZL (ZA cZ20 (ZA hkZ21a (ZA hkZ21b (ZA hyZ22 cZ23)))) trivial
   · simp only [ZC, A72R2]
     obtain ⟨cZ27, h⟩ | ⟨cZ27, h⟩ := cond_s h
     · cases h
       exact ZL (ZA cZ20 cZ27) (ZA S_h.eq_1 SX_h.eq_1)
     · cases h
       exact ZL (ZA cZ20 cZ27) (ZA S_h.eq_1 SX_h.eq_1)
 · cases h
   exact ZL cZ20 (ZA S_h.eq_1 SX_h.eq_1)
def S_b (listZ0 : List TService) (rZ1 : List Int) (v : Int × List Int) : St := ⟨[(1, .lst .o 10 (listZ0.map (e_TService .o))), (7, .sl 7 0 rZ1.length), (8, .sl 8 0 v.2.length), (9, .i v.1)], [(7, .arr 1 (rZ1.map AV.i)), (8, .arr 1 (v.2.map AV.i))]⟩
def SX_b (v : List Int) : St := ⟨[(8, .sl 8 0 v.length)], [(8, .arr 1 (v.map AV.i))]⟩
theorem w_b (listZ0 : List TService) (rZ1 : List Int) (sZ2 : Int × List Int) (o : (Int × List Int) ⊕ (List Int)) (h : M_b listZ0 rZ1 sZ2 = some o) : AWP (OkS Tryz.prog) A72L5 (qL [1, 7, 8, 9] [7, 8] (S_b listZ0 rZ1) (qX 0 [8] [8] (SX_b)) o) (S_b listZ0 rZ1 sZ2) := by
 unfold M_b at h
 simp only [ZC, S_b, A72L5]
 obtain ⟨cZ3, h⟩ | ⟨cZ3, h⟩ := cond_s h
 · obtain ⟨yZ4, hyZ4, h⟩ := bind_s h
   obtain ⟨hyZ4a, hyZ4b⟩ := geti_s hyZ4
   obtain ⟨rZ5, hrZ5, h⟩ := bind_s h
   refine ZF (ZA cZ3 (ZA hyZ4a hyZ4b)) ?_
   refine ZS (ZA cZ3 (ZA hyZ4a hyZ4b)) (w_ci _ _ hrZ5) ?_
   refine ZG ?_
   obtain ⟨rZ6, hrZ6, h⟩ := bind_s h
   refine ZF (ZA cZ3 (ZA hyZ4a hyZ4b)) ?_
   refine ZS (ZA cZ3 (ZA hyZ4a hyZ4b)) (w_ci _ _ hrZ6) ?_
   refine ZG ?_
   obtain ⟨oZ9, hoZ9, h⟩ := bind_s h
   try refine ZF (ZA cZ3 (ZA hyZ4a hyZ4b)) ?_
   refine join_rule0 (sh := (fun v => ⟨[(1, .lst .o 10 (listZ0.map (e_TService .o))), (7, .sl 7 0 rZ1.length), (8, .sl 8 0 sZ2.2.length), (9, .i sZ2.1), (10, .pt 10 0 0), (11, .b rZ5), (12, .b rZ6), (40, .b v)], [(7, .arr 1 (rZ1.map AV.i)), (8, .arr 1 (sZ2.2.map AV.i)), (10, .var (.agg [.i yZ4.Id, .i yZ4.Class, .i yZ4.Work.Start, .lst .o 1 (yZ4.Work.Fibers.map AV.i), .i yZ4.WorkBlock.First, .i yZ4.WorkBlock.Count, .i yZ4.Spare.Start, .lst .o 1 (yZ4.Spare.Fibers.map AV.i), .i yZ4.SpareBlock.First, .i yZ4.SpareBlock.Count]))]⟩)) (s := oZ9) ?_ ?_
   · replace h := hoZ9
     obtain ⟨cZ7, h⟩ | ⟨cZ7, h⟩ := cond_s h
     · obtain ⟨cZ8, h⟩ | ⟨cZ8, h⟩ := cond_s h
       · cases h
         exact ZL (ZA cZ3 (ZA hyZ4a (ZA hyZ4b (ZA cZ7 cZ8)))) trivial
       · cases h
         exact ZL (ZA cZ3 (ZA hyZ4a (ZA hyZ4b (ZA cZ7 cZ8)))) trivial
     · cases h
       exact ZL (ZA cZ3 (ZA hyZ4a (ZA hyZ4b cZ7))) trivial
   · simp only [ZC, A72R1]
     obtain ⟨cZ10, h⟩ | ⟨cZ10, h⟩ := cond_s h
     · obtain ⟨lZ11, hlZ11, h⟩ := bnd_s h
       have eZ12 : Row.arr 1 [(.i 3 : AV)] = Row.arr 1 (lZ11.map AV.i) := by rw [← hlZ11]; rfl
       have jjZ13 : lZ11.length = 1 := by rw [← hlZ11]; rfl
       obtain ⟨uZ14, huZ14, h⟩ := bind_s h
       have huZ14g := grd_s huZ14
       obtain ⟨lZ15, hlZ15, h⟩ := bnd_s h
       have eZ16 : sZ2.2.map AV.i ++ lZ11.map AV.i = lZ15.map AV.i := by rw [← hlZ15, List.map_append]
       have eZ17 : sZ2.2.length + 1 = lZ15.length := by simp [← hlZ11, ← hlZ15] <;> omega
       rw [eZ17] at huZ14g
       cases h
       exact ZL (ZA cZ3 (ZA hyZ4a (ZA hyZ4b (ZA cZ10 (ZA eZ12 (ZA jjZ13 (ZA huZ14g (ZA eZ16 eZ17)))))))) (ZA S_b.eq_1 (ZA SX_b.eq_1 (ZA hlZ11.symm (ZA hlZ15.symm jjZ13))))
     · obtain ⟨cZ18, h⟩ | ⟨cZ18, h⟩ := cond_s h
       · obtain ⟨oZ28, hoZ28, h⟩ := bind_s h
         try refine ZF (ZA cZ3 (ZA hyZ4a (ZA hyZ4b (ZA cZ10 cZ18)))) ?_
         refine join_rule0 (blk_rule0 (loop_rule (w_h listZ0 rZ1 sZ2 yZ4) hoZ28 ?_)) ?_
         · exact ZK (ZA S_h.eq_1 SX_h.eq_1)
         · simp only [ZC, SX_h, A72R4]
           obtain ⟨lZ29, hlZ29, h⟩ := bnd_s h
           have eZ30 : Row.arr 1 [(.i oZ28 : AV)] = Row.arr 1 (lZ29.map AV.i) := by rw [← hlZ29]; rfl
           have jjZ31 : lZ29.length = 1 := by rw [← hlZ29]; rfl
           obtain ⟨uZ32, huZ32, h⟩ := bind_s h
           have huZ32g := grd_s huZ32
           obtain ⟨lZ33, hlZ33, h⟩ := bnd_s h
           have eZ34 : sZ2.2.map AV.i ++ lZ29.map AV.i = lZ33.map AV.i := by rw [← hlZ33, List.map_append]
           have eZ35 : sZ2.2.length + 1 = lZ33.length := by simp [← hlZ29, ← hlZ33] <;> omega
           rw [eZ35] at huZ32g
           cases h
           exact ZL (ZA cZ3 (ZA hyZ4a (ZA hyZ4b (ZA cZ10 (ZA cZ18 (ZA eZ30 (ZA jjZ31 (ZA huZ32g (ZA eZ34 eZ35))))))))) (ZA S_b.eq_1 (ZA SX_b.eq_1 (ZA hlZ29.symm (ZA hlZ33.symm jjZ31))))
       · obtain ⟨cZ36, h⟩ | ⟨cZ36, h⟩ := cond_s h
         · obtain ⟨lZ37, hlZ37, h⟩ := bnd_s h
           have eZ38 : Row.arr 1 [(.i 2 : AV)] = Row.arr 1 (lZ37.map AV.i) := by rw [← hlZ37]; rfl
           have jjZ39 : lZ37.length = 1 := by rw [← hlZ37]; rfl
           obtain ⟨uZ40, huZ40, h⟩ := bind_s h
           have huZ40g := grd_s huZ40
           obtain ⟨lZ41, hlZ41, h⟩ := bnd_s h
           have eZ42 : sZ2.2.map AV.i ++ lZ37.map AV.i = lZ41.map AV.i := by rw [← hlZ41, List.map_append]
           have eZ43 : sZ2.2.length + 1 = lZ41.length := by simp [← hlZ37, ← hlZ41] <;> omega
           rw [eZ43] at huZ40g
           cases h
           exact ZL (ZA cZ3 (ZA hyZ4a (ZA hyZ4b (ZA cZ10 (ZA cZ18 (ZA cZ36 (ZA eZ38 (ZA jjZ39 (ZA huZ40g (ZA eZ42 eZ43)))))))))) (ZA S_b.eq_1 (ZA SX_b.eq_1 (ZA hlZ37.symm (ZA hlZ41.symm jjZ39))))
         · obtain ⟨lZ44, hlZ44, h⟩ := bnd_s h
           have eZ45 : Row.arr 1 [(.i 0 : AV)] = Row.arr 1 (lZ44.map AV.i) := by rw [← hlZ44]; rfl
           have jjZ46 : lZ44.length = 1 := by rw [← hlZ44]; rfl
           obtain ⟨uZ47, huZ47, h⟩ := bind_s h
           have huZ47g := grd_s huZ47
           obtain ⟨lZ48, hlZ48, h⟩ := bnd_s h
           have eZ49 : sZ2.2.map AV.i ++ lZ44.map AV.i = lZ48.map AV.i := by rw [← hlZ48, List.map_append]
           have eZ50 : sZ2.2.length + 1 = lZ48.length := by simp [← hlZ44, ← hlZ48] <;> omega
           rw [eZ50] at huZ47g
           cases h
           exact ZL (ZA cZ3 (ZA hyZ4a (ZA hyZ4b (ZA cZ10 (ZA cZ18 (ZA cZ36 (ZA eZ45 (ZA jjZ46 (ZA huZ47g (ZA eZ49 eZ50)))))))))) (ZA S_b.eq_1 (ZA SX_b.eq_1 (ZA hlZ44.symm (ZA hlZ48.symm jjZ46))))
 · cases h
   exact ZL cZ3 (ZA S_b.eq_1 SX_b.eq_1)
theorem w_en (nZ0 : TNetwork) (listZ0 : List TService) (groupsZ0 : List Int) {r : List Int} (h : M_en nZ0 listZ0 groupsZ0 = some r) : Ok Tryz.prog 72 [.agg [.lst .o 1 (nZ0.Nodes.map AV.z), .lst .o 4 (nZ0.Fibers.map (e_TFiber .o))], .lst .o 10 (listZ0.map (e_TService .o)), .lst .o 1 (groupsZ0.map AV.i)] ((fun r => .lst .u 1 (r.map AV.i)) r) := by
 refine ok_of_body hmix m72 rfl ?_
 unfold M_en at h
 simp only [ZC, A72, V72, body_eq]
 obtain ⟨rZ1, hrZ1, h⟩ := bind_s h
 refine ZF trivial ?_
 refine ZU trivial (w_em _ _ hrZ1) ?_
 refine ZG ?_
 obtain ⟨oZ51, hoZ51, h⟩ := bind_s h
 try refine ZF trivial ?_
 refine join_rule0 (blk_rule0 (loop_rule (w_b listZ0 rZ1) hoZ51 ?_)) ?_
 · exact ZK (ZA S_b.eq_1 SX_b.eq_1)
 · simp only [ZC, SX_b, A72R6]
   cases h
   exact ZL trivial V72.eq_1
def S_q (listZ0 : List TService) (ratesZ0 : List Int) (rZ1 : List Int) (v : Int × Int) : St := ⟨[(1, .lst .o 10 (listZ0.map (e_TService .o))), (2, .lst .o 1 (ratesZ0.map AV.i)), (9, .sl 9 0 rZ1.length), (10, .i v.1), (11, .i v.2)], [(9, .arr 1 (rZ1.map AV.i))]⟩
def SX_q (v : Int) : St := ⟨[(10, .i v)], []⟩
theorem w_q (listZ0 : List TService) (ratesZ0 : List Int) (rZ1 : List Int) (sZ2 : Int × Int) (o : (Int × Int) ⊕ Int) (h : M_q listZ0 ratesZ0 rZ1 sZ2 = some o) : AWP (OkS Tryz.prog) A108L1 (qL [1, 2, 9, 10, 11] [9] (S_q listZ0 ratesZ0 rZ1) (qX 0 [10] [] (SX_q)) o) (S_q listZ0 ratesZ0 rZ1 sZ2) := by
 unfold M_q at h
 simp only [ZC, S_q, A108L1]
 obtain ⟨cZ3, h⟩ | ⟨cZ3, h⟩ := cond_s h
 · obtain ⟨kZ4, hkZ4, h⟩ := bind_s h
   obtain ⟨hkZ4a, hkZ4b⟩ := grd_s hkZ4
   obtain ⟨yZ5, hyZ5, h⟩ := bind_s h
   obtain ⟨cZ6, h⟩ | ⟨cZ6, h⟩ := cond_s h
   · obtain ⟨yZ7, hyZ7, h⟩ := bind_s h
     obtain ⟨hyZ7a, hyZ7b⟩ := geti_s hyZ7
     cases h
     exact ZL (ZA cZ3 (ZA hkZ4a (ZA hkZ4b (ZA hyZ5 (ZA cZ6 (ZA hyZ7a hyZ7b)))))) (ZA S_q.eq_1 SX_q.eq_1)
   · cases h
     exact ZL (ZA cZ3 (ZA hkZ4a (ZA hkZ4b (ZA hyZ5 cZ6)))) (ZA S_q.eq_1 SX_q.eq_1)
 · cases h
   exact ZL cZ3 (ZA S_q.eq_1 SX_q.eq_1)
theorem w_cy (nZ0 : TNetwork) (listZ0 : List TService) (ratesZ0 : List Int) (groupsZ0 : List Int) {r : Int} (h : M_cy nZ0 listZ0 ratesZ0 groupsZ0 = some r) : Ok Tryz.prog 108 [.agg [.lst .o 1 (nZ0.Nodes.map AV.z), .lst .o 4 (nZ0.Fibers.map (e_TFiber .o))], .lst .o 10 (listZ0.map (e_TService .o)), .lst .o 1 (ratesZ0.map AV.i), .lst .o 1 (groupsZ0.map AV.i)] ((fun r => .i r) r) := by
 refine ok_of_body hmix m108 rfl ?_
 unfold M_cy at h
 simp only [ZC, A108, V108, body_eq]
 obtain ⟨rZ1, hrZ1, h⟩ := bind_s h
 refine ZF trivial ?_
 refine ZU trivial (w_en _ _ _ hrZ1) ?_
 refine ZG ?_
 obtain ⟨oZ8, hoZ8, h⟩ := bind_s h
 try refine ZF trivial ?_
 refine join_rule0 (blk_rule0 (loop_rule (w_q listZ0 ratesZ0 rZ1) hoZ8 ?_)) ?_
 · exact ZK (ZA S_q.eq_1 SX_q.eq_1)
 · simp only [ZC, SX_q, A108R2]
   cases h
   exact ZL trivial V108.eq_1
def S_e (nZ0 : TNetwork) (listZ0 : List TService) (ratesZ0 : List Int) (sZ7 : List Int × List Int) (v : Int × Int × Int) : St := ⟨[(1, .lst .o 10 (listZ0.map (e_TService .o))), (2, .lst .o 1 (ratesZ0.map AV.i)), (4, .pt 4 0 0), (10, .sl 10 0 sZ7.1.length), (11, .sl 11 0 sZ7.2.length), (12, .i v.1), (13, .i v.2.1), (14, .i v.2.2)], [(4, .var (.agg [.lst .o 1 (nZ0.Nodes.map AV.z), .lst .o 4 (nZ0.Fibers.map (e_TFiber .o))])), (10, .arr 1 (sZ7.1.map AV.i)), (11, .arr 1 (sZ7.2.map AV.i))]⟩
def SX_e (nZ0 : TNetwork) (listZ0 : List TService) (ratesZ0 : List Int) (sZ7 : List Int × List Int) (v : Int) : St := ⟨[(1, .lst .o 10 (listZ0.map (e_TService .o))), (2, .lst .o 1 (ratesZ0.map AV.i)), (4, .pt 4 0 0), (10, .sl 10 0 sZ7.1.length), (11, .sl 11 0 sZ7.2.length), (12, .i v)], [(4, .var (.agg [.lst .o 1 (nZ0.Nodes.map AV.z), .lst .o 4 (nZ0.Fibers.map (e_TFiber .o))])), (10, .arr 1 (sZ7.1.map AV.i)), (11, .arr 1 (sZ7.2.map AV.i))]⟩
theorem w_e (nZ0 : TNetwork) (listZ0 : List TService) (ratesZ0 : List Int) (sZ7 : List Int × List Int) (sZ13 : Int × Int × Int) (o : (Int × Int × Int) ⊕ Int) (h : M_e nZ0 listZ0 ratesZ0 sZ7 sZ13 = some o) : AWP (OkS Tryz.prog) A31L2 (qL [1, 2, 4, 10, 11, 12, 13, 14] [4, 10, 11] (S_e nZ0 listZ0 ratesZ0 sZ7) (qX 2 [1, 2, 4, 10, 11, 12] [4, 10, 11] (SX_e nZ0 listZ0 ratesZ0 sZ7)) o) (S_e nZ0 listZ0 ratesZ0 sZ7 sZ13) := by
 unfold M_e at h
 simp only [ZC, S_e, A31L2]
 obtain ⟨cZ14, h⟩ | ⟨cZ14, h⟩ := cond_s h
 · obtain ⟨kZ15, hkZ15, h⟩ := bind_s h
   obtain ⟨hkZ15a, hkZ15b⟩ := grd_s hkZ15
   obtain ⟨yZ16, hyZ16, h⟩ := bind_s h
   obtain ⟨rZ17, hrZ17, h⟩ := bind_s h
   refine ZF (ZA cZ14 (ZA hkZ15a (ZA hkZ15b hyZ16))) ?_
   refine ZU (ZA cZ14 (ZA hkZ15a (ZA hkZ15b hyZ16))) (w_cj _ _ hrZ17) ?_
   refine ZG ?_
   obtain ⟨rZ18, hrZ18, h⟩ := bind_s h
   refine ZF (ZA cZ14 (ZA hkZ15a (ZA hkZ15b hyZ16))) ?_
   refine ZS (ZA cZ14 (ZA hkZ15a (ZA hkZ15b hyZ16))) (w_cy _ _ _ _ hrZ18) ?_
   refine ZG ?_
   obtain ⟨cZ19, h⟩ | ⟨cZ19, h⟩ := cond_s h
   · cases h
     exact ZL (ZA cZ14 (ZA hkZ15a (ZA hkZ15b (ZA hyZ16 cZ19)))) (ZA S_e.eq_1 SX_e.eq_1)
   · cases h
     exact ZL (ZA cZ14 (ZA hkZ15a (ZA hkZ15b (ZA hyZ16 cZ19)))) (ZA S_e.eq_1 SX_e.eq_1)
 · cases h
   exact ZL cZ14 (ZA S_e.eq_1 SX_e.eq_1)
def S_av (nZ0 : TNetwork) (listZ0 : List TService) (ratesZ0 : List Int) (v : List Int × List Int) : St := ⟨[(1, .lst .o 10 (listZ0.map (e_TService .o))), (2, .lst .o 1 (ratesZ0.map AV.i)), (4, .pt 4 0 0), (10, .sl 10 0 v.1.length), (11, .sl 11 0 v.2.length)], [(4, .var (.agg [.lst .o 1 (nZ0.Nodes.map AV.z), .lst .o 4 (nZ0.Fibers.map (e_TFiber .o))])), (10, .arr 1 (v.1.map AV.i)), (11, .arr 1 (v.2.map AV.i))]⟩
def SX_av (v : List Int) : St := ⟨[(10, .sl 10 0 v.length)], [(10, .arr 1 (v.map AV.i))]⟩
theorem w_av (nZ0 : TNetwork) (listZ0 : List TService) (ratesZ0 : List Int) (sZ7 : List Int × List Int) (o : (List Int × List Int) ⊕ (List Int)) (h : M_av nZ0 listZ0 ratesZ0 sZ7 = some o) : AWP (OkS Tryz.prog) A31L4 (qL [1, 2, 4, 10, 11] [4, 10, 11] (S_av nZ0 listZ0 ratesZ0) (qX 0 [10] [10] (SX_av)) o) (S_av nZ0 listZ0 ratesZ0 sZ7) := by
 unfold M_av at h
 simp only [ZC, S_av, A31L4]
 obtain ⟨cZ8, h⟩ | ⟨cZ8, h⟩ := cond_s h
 · obtain ⟨kZ9, hkZ9, h⟩ := bind_s h
   obtain ⟨hkZ9a, hkZ9b⟩ := grd_s hkZ9
   obtain ⟨yZ10, hyZ10, h⟩ := bind_s h
   obtain ⟨rZ11, hrZ11, h⟩ := bind_s h
   refine ZF (ZA cZ8 (ZA hkZ9a (ZA hkZ9b hyZ10))) ?_
   refine ZU (ZA cZ8 (ZA hkZ9a (ZA hkZ9b hyZ10))) (w_cj _ _ hrZ11) ?_
   refine ZG ?_
   obtain ⟨rZ12, hrZ12, h⟩ := bind_s h
   refine ZF (ZA cZ8 (ZA hkZ9a (ZA hkZ9b hyZ10))) ?_
   refine ZS (ZA cZ8 (ZA hkZ9a (ZA hkZ9b hyZ10))) (w_cy _ _ _ _ hrZ12) ?_
   refine ZG ?_
   obtain ⟨oZ20, hoZ20, h⟩ := bind_s h
   try refine ZF (ZA cZ8 (ZA hkZ9a (ZA hkZ9b hyZ10))) ?_
   refine join_rule0 (blk_rule0 (loop_rule (w_e nZ0 listZ0 ratesZ0 sZ7) hoZ20 ?_)) ?_
   · exact ZK (ZA S_e.eq_1 SX_e.eq_1)
   · simp only [ZC, SX_e, A31R3]
     obtain ⟨lZ21, hlZ21, h⟩ := bnd_s h
     have eZ22 : Row.arr 1 [(.i oZ20 : AV)] = Row.arr 1 (lZ21.map AV.i) := by rw [← hlZ21]; rfl
     have jjZ23 : lZ21.length = 1 := by rw [← hlZ21]; rfl
     obtain ⟨uZ24, huZ24, h⟩ := bind_s h
     have huZ24g := grd_s huZ24
     obtain ⟨lZ25, hlZ25, h⟩ := bnd_s h
     have eZ26 : sZ7.1.map AV.i ++ lZ21.map AV.i = lZ25.map AV.i := by rw [← hlZ25, List.map_append]
     have eZ27 : sZ7.1.length + 1 = lZ25.length := by simp [← hlZ21, ← hlZ25] <;> omega
     rw [eZ27] at huZ24g
     obtain ⟨rZ28, hrZ28, h⟩ := bind_s h
     refine ZF (ZA cZ8 (ZA hkZ9a (ZA hkZ9b (ZA hyZ10 (ZA eZ22 (ZA jjZ23 (ZA huZ24g (ZA eZ26 eZ27)))))))) ?_
     refine ZU (ZA cZ8 (ZA hkZ9a (ZA hkZ9b (ZA hyZ10 (ZA eZ22 (ZA jjZ23 (ZA huZ24g (ZA eZ26 eZ27)))))))) (w_cj _ _ hrZ28) ?_
     refine ZG ?_
     cases h
     exact ZL (ZA cZ8 (ZA hkZ9a (ZA hkZ9b (ZA hyZ10 (ZA eZ22 (ZA jjZ23 (ZA huZ24g (ZA eZ26 eZ27)))))))) (ZA S_av.eq_1 (ZA SX_av.eq_1 (ZA hlZ21.symm (ZA hlZ25.symm jjZ23))))
 · cases h
   exact ZL cZ8 (ZA S_av.eq_1 SX_av.eq_1)
theorem w_eo (nZ0 : TNetwork) (listZ0 : List TService) (ratesZ0 : List Int) (groupsZ0 : List Int) {r : List Int × Bool} (h : M_eo nZ0 listZ0 ratesZ0 groupsZ0 = some r) : Ok Tryz.prog 31 [.agg [.lst .o 1 (nZ0.Nodes.map AV.z), .lst .o 4 (nZ0.Fibers.map (e_TFiber .o))], .lst .o 10 (listZ0.map (e_TService .o)), .lst .o 1 (ratesZ0.map AV.i), .lst .o 1 (groupsZ0.map AV.i)] ((fun r => .tup [.lst .u 1 (r.1.map AV.i), .b r.2]) r) := by
 refine ok_of_body hmix m31 rfl ?_
 unfold M_eo at h
 simp only [ZC, A31, V31, body_eq]
 obtain ⟨oZ4, hoZ4, h⟩ := bind_s h
 try refine ZF trivial ?_
 refine join_rule0 (sh := (fun v => ⟨[(1, .lst .o 10 (listZ0.map (e_TService .o))), (2, .lst .o 1 (ratesZ0.map AV.i)), (3, .lst .o 1 (groupsZ0.map AV.i)), (4, .pt 4 0 0), (10, .sl 10 0 0), (27, .b v)], [(4, .var (.agg [.lst .o 1 (nZ0.Nodes.map AV.z), .lst .o 4 (nZ0.Fibers.map (e_TFiber .o))])), (10, .arr 1 [])]⟩)) (s := oZ4) ?_ ?_
 · replace h := hoZ4
   obtain ⟨rZ1, hrZ1, h⟩ := bind_s h
   refine ZF trivial ?_
   refine ZS trivial (w_ej _ _ _ hrZ1) ?_
   refine ZG ?_
   obtain ⟨cZ2, h⟩ | ⟨cZ2, h⟩ := cond_s h
   · cases h
     exact ZL cZ2 trivial
   · obtain ⟨rZ3, hrZ3, h⟩ := bind_s h
     refine ZF cZ2 ?_
     refine ZS cZ2 (w_ek _ _ hrZ3) ?_
     refine ZG ?_
     cases h
     exact ZL cZ2 trivial
 · simp only [ZC, A31R1]
   obtain ⟨cZ5, h⟩ | ⟨cZ5, h⟩ := cond_s h
   · cases h
     exact ZL cZ5 V31.eq_1
   · obtain ⟨rZ6, hrZ6, h⟩ := bind_s h
     refine ZF cZ5 ?_
     refine ZU cZ5 (w_fy _ hrZ6) ?_
     refine ZG ?_
     obtain ⟨oZ29, hoZ29, h⟩ := bind_s h
     try refine ZF cZ5 ?_
     refine join_rule0 (blk_rule0 (loop_rule (w_av nZ0 listZ0 ratesZ0) hoZ29 ?_)) ?_
     · exact ZK (ZA S_av.eq_1 SX_av.eq_1)
     · simp only [ZC, SX_av, A31R5]
       cases h
       exact ZL cZ5 V31.eq_1
theorem w_c (nZ0 : Int) (lowZ0 : Int) (highZ0 : Int) {r : Bool} (h : M_c nZ0 lowZ0 highZ0 = some r) : Ok Tryz.prog 76 [.i nZ0, .i lowZ0, .i highZ0] ((fun r => .b r) r) := by
 refine ok_of_body hmix m76 rfl ?_
 unfold M_c at h
 simp only [ZC, A76, V76, body_eq]
 obtain ⟨cZ1, h⟩ | ⟨cZ1, h⟩ := cond_s h
 · cases h
   exact ZL cZ1 V76.eq_1
 · cases h
   exact ZL cZ1 V76.eq_1
def S_r (sZ0 : ByteArray) (v : Int) : St := ⟨[(0, .z sZ0), (7, .i (sZ0.size : Int)), (8, .i v)], []⟩
def SX_r (sZ0 : ByteArray) (v : Unit) : St := ⟨[(0, .z sZ0)], []⟩
theorem w_r (sZ0 : ByteArray) (sZ1 : Int) (o : Int ⊕ (Unit ⊕ Bool)) (h : M_r sZ0 sZ1 = some o) : AWP (OkS Tryz.prog) A147L2 (qL [0, 7, 8] [] (S_r sZ0) (qS (qX 0 [0] [] (SX_r sZ0)) (qR V147 (fun r => .b r))) o) (S_r sZ0 sZ1) := by
 unfold M_r at h
 simp only [ZC, S_r, A147L2]
 obtain ⟨cZ2, h⟩ | ⟨cZ2, h⟩ := cond_s h
 · obtain ⟨oZ7, hoZ7, h⟩ := bind_s h
   try refine ZF cZ2 ?_
   refine join_rule0 (sh := (fun v => ⟨[(0, .z sZ0), (3, .i sZ1), (4, .b v.1), (5, .b v.2), (7, .i (sZ0.size : Int)), (8, .i sZ1)], []⟩)) (s := oZ7) ?_ ?_
   · replace h := hoZ7
     obtain ⟨yZ3, hyZ3, h⟩ := bind_s h
     obtain ⟨hyZ3a, hyZ3b⟩ := getz_s hyZ3
     obtain ⟨cZ4, h⟩ | ⟨cZ4, h⟩ := cond_s h
     · obtain ⟨cZ5, h⟩ | ⟨cZ5, h⟩ := cond_s h
       · cases h
         exact ZL (ZA cZ2 (ZA hyZ3a (ZA hyZ3b (ZA cZ4 cZ5)))) trivial
       · cases h
         exact ZL (ZA cZ2 (ZA hyZ3a (ZA hyZ3b (ZA cZ4 cZ5)))) trivial
     · obtain ⟨cZ6, h⟩ | ⟨cZ6, h⟩ := cond_s h
       · cases h
         exact ZL (ZA cZ2 (ZA hyZ3a (ZA hyZ3b (ZA cZ4 cZ6)))) trivial
       · cases h
         exact ZL (ZA cZ2 (ZA hyZ3a (ZA hyZ3b (ZA cZ4 cZ6)))) trivial
   · simp only [ZC, A147R1]
     obtain ⟨cZ8, h⟩ | ⟨cZ8, h⟩ := cond_s h
     · obtain ⟨cZ9, h⟩ | ⟨cZ9, h⟩ := cond_s h
       · cases h
         exact ZL (ZA cZ2 (ZA cZ8 cZ9)) V147.eq_1
       · obtain ⟨cZ10, h⟩ | ⟨cZ10, h⟩ := cond_s h
         · cases h
           exact ZL (ZA cZ2 (ZA cZ8 (ZA cZ9 cZ10))) V147.eq_1
         · cases h
           exact ZL (ZA cZ2 (ZA cZ8 (ZA cZ9 cZ10))) (ZA S_r.eq_1 SX_r.eq_1)
     · cases h
       exact ZL (ZA cZ2 cZ8) (ZA S_r.eq_1 SX_r.eq_1)
 · cases h
   exact ZL cZ2 (ZA S_r.eq_1 SX_r.eq_1)
theorem w_ep (sZ0 : ByteArray) {r : Bool} (h : M_ep sZ0 = some r) : Ok Tryz.prog 147 [.z sZ0] ((fun r => .b r) r) := by
 refine ok_of_body hmix m147 rfl ?_
 unfold M_ep at h
 simp only [ZC, A147, V147, body_eq]
 obtain ⟨oZ11, hoZ11, h⟩ := bind_s h
 try refine ZF trivial ?_
 refine join_rule (o := oZ11) (blk_rule sideR (loop_rule (w_r sZ0) hoZ11 ?_)) (fun vZ12 hv => ?_) (fun xZ13 hv e τ hne hq => ?_)
 · exact ZK (ZA S_r.eq_1 SX_r.eq_1)
 · subst hv
   simp only [] at h
   simp only [ZC, SX_r, A147R3]
   obtain ⟨rZ14, hrZ14, h⟩ := bind_s h
   refine ZF trivial ?_
   refine ZS trivial (w_c _ _ _ hrZ14) ?_
   refine ZG ?_
   cases h
   exact ZL trivial V147.eq_1
 · subst hv
   simp only [] at h
   obtain ⟨rfl, qZ15⟩ := hq
   cases h
   exact qZ15
def S_aw (sZ0 : List ByteArray) (vZ0 : ByteArray) (v : Int) : St := ⟨[(0, .lst .o 1 (sZ0.map AV.z)), (1, .z vZ0), (7, .i (sZ0.length : Int)), (8, .i v)], []⟩
def SX_aw (v : Unit) : St := ⟨[], []⟩
theorem w_aw (sZ0 : List ByteArray) (vZ0 : ByteArray) (sZ1 : Int) (o : Int ⊕ (Unit ⊕ Int)) (h : M_aw sZ0 vZ0 sZ1 = some o) : AWP (OkS Tryz.prog) A206L1 (qL [0, 1, 7, 8] [] (S_aw sZ0 vZ0) (qS (qX 0 [] [] (SX_aw)) (qR V206 (fun r => .i r))) o) (S_aw sZ0 vZ0 sZ1) := by
 unfold M_aw at h
 simp only [ZC, S_aw, A206L1]
 obtain ⟨cZ2, h⟩ | ⟨cZ2, h⟩ := cond_s h
 · obtain ⟨yZ3, hyZ3, h⟩ := bind_s h
   obtain ⟨hyZ3a, hyZ3b⟩ := geti_s hyZ3
   obtain ⟨cZ4, h⟩ | ⟨cZ4, h⟩ := cond_s h
   · cases h
     exact ZL (ZA cZ2 (ZA hyZ3a (ZA hyZ3b cZ4))) V206.eq_1
   · cases h
     exact ZL (ZA cZ2 (ZA hyZ3a (ZA hyZ3b cZ4))) (ZA S_aw.eq_1 SX_aw.eq_1)
 · cases h
   exact ZL cZ2 (ZA S_aw.eq_1 SX_aw.eq_1)
theorem w_fz (sZ0 : List ByteArray) (vZ0 : ByteArray) {r : Int} (h : M_fz sZ0 vZ0 = some r) : Ok Tryz.prog 206 [.lst .o 1 (sZ0.map AV.z), .z vZ0] ((fun r => .i r) r) := by
 refine ok_of_body hmix m206 rfl ?_
 unfold M_fz at h
 simp only [ZC, A206, V206, body_eq]
 obtain ⟨oZ5, hoZ5, h⟩ := bind_s h
 try refine ZF trivial ?_
 refine join_rule (o := oZ5) (blk_rule sideR (loop_rule (w_aw sZ0 vZ0) hoZ5 ?_)) (fun vZ6 hv => ?_) (fun xZ7 hv e τ hne hq => ?_)
 · exact ZK (ZA S_aw.eq_1 SX_aw.eq_1)
 · subst hv
   simp only [] at h
   simp only [ZC, SX_aw, A206R2]
   cases h
   exact ZL trivial V206.eq_1
 · subst hv
   simp only [] at h
   obtain ⟨rfl, qZ8⟩ := hq
   cases h
   exact qZ8
theorem w_eq (sZ0 : List ByteArray) (vZ0 : ByteArray) {r : Bool} (h : M_eq sZ0 vZ0 = some r) : Ok Tryz.prog 148 [.lst .o 1 (sZ0.map AV.z), .z vZ0] ((fun r => .b r) r) := by
 refine ok_of_body hmix m148 rfl ?_
 unfold M_eq at h
 simp only [ZC, A148, V148, body_eq]
 obtain ⟨rZ1, hrZ1, h⟩ := bind_s h
 refine ZF trivial ?_
 refine ZS trivial (w_fz _ _ hrZ1) ?_
 refine ZG ?_
 cases h
 exact ZL trivial V148.eq_1
theorem w_cc (xZ0 : Int) {r : Bool} (h : M_cc xZ0 = some r) : Ok Tryz.prog 224 [.i xZ0] ((fun r => .b r) r) := by
 refine ok_of_body hmix m224 rfl ?_
 unfold M_cc at h
 simp only [ZC, A224, V224, body_eq]
 cases h
 exact ZL trivial V224.eq_1
theorem w_cd (xZ0 : Int) (yZ0 : Int) {r : Int} (h : M_cd xZ0 yZ0 = some r) : Ok Tryz.prog 189 [.i xZ0, .i yZ0] ((fun r => .i r) r) := by
 refine ok_of_body hmix m189 rfl ?_
 unfold M_cd at h
 simp only [ZC, A189, V189, body_eq]
 obtain ⟨rZ1, hrZ1, h⟩ := bind_s h
 refine ZF trivial ?_
 refine ZS trivial (w_cc _ hrZ1) ?_
 refine ZG ?_
 obtain ⟨rZ2, hrZ2, h⟩ := bind_s h
 refine ZF trivial ?_
 refine ZS trivial (w_cc _ hrZ2) ?_
 refine ZG ?_
 obtain ⟨cZ3, h⟩ | ⟨cZ3, h⟩ := cond_s h
 · obtain ⟨cZ4, h⟩ | ⟨cZ4, h⟩ := cond_s h
   · cases h
     exact ZL (ZA cZ3 cZ4) V189.eq_1
   · cases h
     exact ZL (ZA cZ3 cZ4) V189.eq_1
 · obtain ⟨cZ5, h⟩ | ⟨cZ5, h⟩ := cond_s h
   · cases h
     exact ZL (ZA cZ3 cZ5) V189.eq_1
   · obtain ⟨cZ6, h⟩ | ⟨cZ6, h⟩ := cond_s h
     · cases h
       exact ZL (ZA cZ3 (ZA cZ5 cZ6)) V189.eq_1
     · obtain ⟨cZ7, h⟩ | ⟨cZ7, h⟩ := cond_s h
       · cases h
         exact ZL (ZA cZ3 (ZA cZ5 (ZA cZ6 cZ7))) V189.eq_1
       · cases h
         exact ZL (ZA cZ3 (ZA cZ5 (ZA cZ6 cZ7))) V189.eq_1
def S_ax (valsZ0 : List Int) (v : Int) : St := ⟨[(3, .i 0), (6, .lst .o 1 (valsZ0.map AV.i)), (7, .i (valsZ0.length : Int)), (8, .i v)], []⟩
def SX_ax (v : Unit) : St := ⟨[(3, .i 0)], []⟩
theorem w_ax (valsZ0 : List Int) (sZ1 : Int) (o : Int ⊕ (Unit ⊕ Int)) (h : M_ax valsZ0 sZ1 = some o) : AWP (OkS Tryz.prog) A188L1 (qL [3, 6, 7, 8] [] (S_ax valsZ0) (qS (qX 0 [3] [] (SX_ax)) (qR V188 (fun r => .i r))) o) (S_ax valsZ0 sZ1) := by
 unfold M_ax at h
 simp only [ZC, S_ax, A188L1]
 obtain ⟨cZ2, h⟩ | ⟨cZ2, h⟩ := cond_s h
 · obtain ⟨yZ3, hyZ3, h⟩ := bind_s h
   obtain ⟨hyZ3a, hyZ3b⟩ := geti_s hyZ3
   obtain ⟨cZ4, h⟩ | ⟨cZ4, h⟩ := cond_s h
   · cases h
     exact ZL (ZA cZ2 (ZA hyZ3a (ZA hyZ3b cZ4))) V188.eq_1
   · cases h
     exact ZL (ZA cZ2 (ZA hyZ3a (ZA hyZ3b cZ4))) (ZA S_ax.eq_1 SX_ax.eq_1)
 · cases h
   exact ZL cZ2 (ZA S_ax.eq_1 SX_ax.eq_1)
theorem w_ga (valsZ0 : List Int) {r : Int} (h : M_ga valsZ0 = some r) : Ok Tryz.prog 188 [.lst .o 1 (valsZ0.map AV.i)] ((fun r => .i r) r) := by
 refine ok_of_body hmix m188 rfl ?_
 unfold M_ga at h
 simp only [ZC, A188, V188, body_eq]
 obtain ⟨oZ5, hoZ5, h⟩ := bind_s h
 try refine ZF trivial ?_
 refine join_rule (o := oZ5) (blk_rule sideR (loop_rule (w_ax valsZ0) hoZ5 ?_)) (fun vZ6 hv => ?_) (fun xZ7 hv e τ hne hq => ?_)
 · exact ZK (ZA S_ax.eq_1 SX_ax.eq_1)
 · subst hv
   simp only [] at h
   simp only [ZC, SX_ax, A188R2]
   cases h
   exact ZL trivial V188.eq_1
 · subst hv
   simp only [] at h
   obtain ⟨rfl, qZ8⟩ := hq
   cases h
   exact qZ8
theorem w_er (aZ0 : TFiber) (bZ0 : TFiber) {r : Int} (h : M_er aZ0 bZ0 = some r) : Ok Tryz.prog 149 [.agg [.i aZ0.A, .i aZ0.B, .i aZ0.Length, .i aZ0.Risk], .agg [.i bZ0.A, .i bZ0.B, .i bZ0.Length, .i bZ0.Risk]] ((fun r => .i r) r) := by
 refine ok_of_body hmix m149 rfl ?_
 unfold M_er at h
 simp only [ZC, A149, V149, body_eq]
 obtain ⟨rZ1, hrZ1, h⟩ := bind_s h
 refine ZF trivial ?_
 refine ZS trivial (w_cd _ _ hrZ1) ?_
 refine ZG ?_
 obtain ⟨rZ2, hrZ2, h⟩ := bind_s h
 refine ZF trivial ?_
 refine ZS trivial (w_cd _ _ hrZ2) ?_
 refine ZG ?_
 obtain ⟨rZ3, hrZ3, h⟩ := bind_s h
 refine ZF trivial ?_
 refine ZS trivial (w_cd _ _ hrZ3) ?_
 refine ZG ?_
 obtain ⟨rZ4, hrZ4, h⟩ := bind_s h
 refine ZF trivial ?_
 refine ZS trivial (w_cd _ _ hrZ4) ?_
 refine ZG ?_
 obtain ⟨lZ5, hlZ5, h⟩ := bnd_s h
 have eZ6 : Row.arr 1 [(.i rZ1 : AV), (.i rZ2 : AV), (.i rZ3 : AV), (.i rZ4 : AV)] = Row.arr 1 (lZ5.map AV.i) := by rw [← hlZ5]; rfl
 have jjZ7 : lZ5.length = 4 := by rw [← hlZ5]; rfl
 have nZ8 : sub (lZ5.map AV.i) 0 4 = lZ5.map AV.i := sub_n _ (by simp [← hlZ5])
 obtain ⟨rZ9, hrZ9, h⟩ := bind_s h
 refine ZF (ZA eZ6 (ZA jjZ7 nZ8)) ?_
 refine ZS (ZA eZ6 (ZA jjZ7 nZ8)) (w_ga _ hrZ9) ?_
 refine ZG ?_
 cases h
 exact ZL (ZA eZ6 (ZA jjZ7 nZ8)) (ZA V149.eq_1 (ZA hlZ5.symm jjZ7))
def S_ay (nZ0 : TNetwork) (v : Int) : St := ⟨[(1, .pt 1 0 0), (8, .lst .o 1 (nZ0.Nodes.map AV.z)), (9, .i (nZ0.Nodes.length : Int)), (10, .i v)], [(1, .var (.agg [.lst .o 1 (nZ0.Nodes.map AV.z), .lst .o 4 (nZ0.Fibers.map (e_TFiber .o))]))]⟩
def SX_ay (nZ0 : TNetwork) (v : Unit) : St := ⟨[(1, .pt 1 0 0)], [(1, .var (.agg [.lst .o 1 (nZ0.Nodes.map AV.z), .lst .o 4 (nZ0.Fibers.map (e_TFiber .o))]))]⟩
theorem w_ay (nZ0 : TNetwork) (sZ1 : Int) (o : Int ⊕ (Unit ⊕ Bool)) (h : M_ay nZ0 sZ1 = some o) : AWP (OkS Tryz.prog) A81L1 (qL [1, 8, 9, 10] [1] (S_ay nZ0) (qS (qX 0 [1] [1] (SX_ay nZ0)) (qR V81 (fun r => .b r))) o) (S_ay nZ0 sZ1) := by
 unfold M_ay at h
 simp only [ZC, S_ay, A81L1]
 obtain ⟨cZ2, h⟩ | ⟨cZ2, h⟩ := cond_s h
 · obtain ⟨yZ3, hyZ3, h⟩ := bind_s h
   obtain ⟨hyZ3a, hyZ3b⟩ := geti_s hyZ3
   obtain ⟨rZ4, hrZ4, h⟩ := bind_s h
   refine ZF (ZA cZ2 (ZA hyZ3a hyZ3b)) ?_
   refine ZS (ZA cZ2 (ZA hyZ3a hyZ3b)) (w_ep _ hrZ4) ?_
   refine ZG ?_
   obtain ⟨cZ5, h⟩ | ⟨cZ5, h⟩ := cond_s h
   · cases h
     exact ZL (ZA cZ2 (ZA hyZ3a (ZA hyZ3b cZ5))) V81.eq_1
   · obtain ⟨lZ6, hlZ6, h⟩ := bind_s h
     obtain ⟨hlZ6a, hlZ6b, hlZ6c, hlZ6d, hlZ6e⟩ := slT_s AV.z hlZ6
     obtain ⟨rZ7, hrZ7, h⟩ := bind_s h
     refine ZF (ZA cZ2 (ZA hyZ3a (ZA hyZ3b (ZA cZ5 (ZA hlZ6a (ZA hlZ6b (ZA hlZ6c (ZA hlZ6d hlZ6e)))))))) ?_
     refine ZS (ZA cZ2 (ZA hyZ3a (ZA hyZ3b (ZA cZ5 (ZA hlZ6a (ZA hlZ6b (ZA hlZ6c (ZA hlZ6d hlZ6e)))))))) (w_eq _ _ hrZ7) ?_
     refine ZG ?_
     obtain ⟨cZ8, h⟩ | ⟨cZ8, h⟩ := cond_s h
     · cases h
       exact ZL (ZA cZ2 (ZA hyZ3a (ZA hyZ3b (ZA cZ5 (ZA hlZ6a (ZA hlZ6b (ZA hlZ6c (ZA hlZ6d (ZA hlZ6e cZ8))))))))) V81.eq_1
     · cases h
       exact ZL (ZA cZ2 (ZA hyZ3a (ZA hyZ3b (ZA cZ5 (ZA hlZ6a (ZA hlZ6b (ZA hlZ6c (ZA hlZ6d (ZA hlZ6e cZ8))))))))) (ZA S_ay.eq_1 SX_ay.eq_1)
 · cases h
   exact ZL cZ2 (ZA S_ay.eq_1 SX_ay.eq_1)
def S_s (nZ0 : TNetwork) (v : Int) : St := ⟨[(1, .pt 1 0 0), (28, .lst .o 4 (nZ0.Fibers.map (e_TFiber .o))), (29, .i (nZ0.Fibers.length : Int)), (30, .i v)], [(1, .var (.agg [.lst .o 1 (nZ0.Nodes.map AV.z), .lst .o 4 (nZ0.Fibers.map (e_TFiber .o))]))]⟩
def SX_s (nZ0 : TNetwork) (v : Unit) : St := ⟨[(1, .pt 1 0 0)], [(1, .var (.agg [.lst .o 1 (nZ0.Nodes.map AV.z), .lst .o 4 (nZ0.Fibers.map (e_TFiber .o))]))]⟩
theorem w_s (nZ0 : TNetwork) (sZ12 : Int) (o : Int ⊕ (Unit ⊕ Bool)) (h : M_s nZ0 sZ12 = some o) : AWP (OkS Tryz.prog) A81L3 (qL [1, 28, 29, 30] [1] (S_s nZ0) (qS (qX 2 [1] [1] (SX_s nZ0)) (qR V81 (fun r => .b r))) o) (S_s nZ0 sZ12) := by
 unfold M_s at h
 simp only [ZC, S_s, A81L3]
 obtain ⟨cZ13, h⟩ | ⟨cZ13, h⟩ := cond_s h
 · obtain ⟨yZ14, hyZ14, h⟩ := bind_s h
   obtain ⟨hyZ14a, hyZ14b⟩ := geti_s hyZ14
   obtain ⟨cZ15, h⟩ | ⟨cZ15, h⟩ := cond_s h
   · cases h
     exact ZL (ZA cZ13 (ZA hyZ14a (ZA hyZ14b cZ15))) V81.eq_1
   · obtain ⟨cZ16, h⟩ | ⟨cZ16, h⟩ := cond_s h
     · cases h
       exact ZL (ZA cZ13 (ZA hyZ14a (ZA hyZ14b (ZA cZ15 cZ16)))) V81.eq_1
     · obtain ⟨cZ17, h⟩ | ⟨cZ17, h⟩ := cond_s h
       · cases h
         exact ZL (ZA cZ13 (ZA hyZ14a (ZA hyZ14b (ZA cZ15 (ZA cZ16 cZ17))))) V81.eq_1
       · obtain ⟨rZ18, hrZ18, h⟩ := bind_s h
         refine ZF (ZA cZ13 (ZA hyZ14a (ZA hyZ14b (ZA cZ15 (ZA cZ16 cZ17))))) ?_
         refine ZS (ZA cZ13 (ZA hyZ14a (ZA hyZ14b (ZA cZ15 (ZA cZ16 cZ17))))) (w_c _ _ _ hrZ18) ?_
         refine ZG ?_
         obtain ⟨cZ19, h⟩ | ⟨cZ19, h⟩ := cond_s h
         · cases h
           exact ZL (ZA cZ13 (ZA hyZ14a (ZA hyZ14b (ZA cZ15 (ZA cZ16 (ZA cZ17 cZ19)))))) V81.eq_1
         · obtain ⟨rZ20, hrZ20, h⟩ := bind_s h
           refine ZF (ZA cZ13 (ZA hyZ14a (ZA hyZ14b (ZA cZ15 (ZA cZ16 (ZA cZ17 cZ19)))))) ?_
           refine ZS (ZA cZ13 (ZA hyZ14a (ZA hyZ14b (ZA cZ15 (ZA cZ16 (ZA cZ17 cZ19)))))) (w_c _ _ _ hrZ20) ?_
           refine ZG ?_
           obtain ⟨cZ21, h⟩ | ⟨cZ21, h⟩ := cond_s h
           · cases h
             exact ZL (ZA cZ13 (ZA hyZ14a (ZA hyZ14b (ZA cZ15 (ZA cZ16 (ZA cZ17 (ZA cZ19 cZ21))))))) V81.eq_1
           · obtain ⟨cZ22, h⟩ | ⟨cZ22, h⟩ := cond_s h
             · obtain ⟨yZ23, hyZ23, h⟩ := bind_s h
               obtain ⟨hyZ23a, hyZ23b⟩ := geti_s hyZ23
               obtain ⟨rZ24, hrZ24, h⟩ := bind_s h
               refine ZF (ZA cZ13 (ZA hyZ14a (ZA hyZ14b (ZA cZ15 (ZA cZ16 (ZA cZ17 (ZA cZ19 (ZA cZ21 (ZA cZ22 (ZA hyZ23a hyZ23b)))))))))) ?_
               refine ZS (ZA cZ13 (ZA hyZ14a (ZA hyZ14b (ZA cZ15 (ZA cZ16 (ZA cZ17 (ZA cZ19 (ZA cZ21 (ZA cZ22 (ZA hyZ23a hyZ23b)))))))))) (w_er _ _ hrZ24) ?_
               refine ZG ?_
               obtain ⟨cZ25, h⟩ | ⟨cZ25, h⟩ := cond_s h
               · cases h
                 exact ZL (ZA cZ13 (ZA hyZ14a (ZA hyZ14b (ZA cZ15 (ZA cZ16 (ZA cZ17 (ZA cZ19 (ZA cZ21 (ZA cZ22 (ZA hyZ23a (ZA hyZ23b cZ25))))))))))) V81.eq_1
               · cases h
                 exact ZL (ZA cZ13 (ZA hyZ14a (ZA hyZ14b (ZA cZ15 (ZA cZ16 (ZA cZ17 (ZA cZ19 (ZA cZ21 (ZA cZ22 (ZA hyZ23a (ZA hyZ23b cZ25))))))))))) (ZA S_s.eq_1 SX_s.eq_1)
             · cases h
               exact ZL (ZA cZ13 (ZA hyZ14a (ZA hyZ14b (ZA cZ15 (ZA cZ16 (ZA cZ17 (ZA cZ19 (ZA cZ21 cZ22)))))))) (ZA S_s.eq_1 SX_s.eq_1)
 · cases h
   exact ZL cZ13 (ZA S_s.eq_1 SX_s.eq_1)
theorem w_es (nZ0 : TNetwork) {r : Bool} (h : M_es nZ0 = some r) : Ok Tryz.prog 81 [.agg [.lst .o 1 (nZ0.Nodes.map AV.z), .lst .o 4 (nZ0.Fibers.map (e_TFiber .o))]] ((fun r => .b r) r) := by
 refine ok_of_body hmix m81 rfl ?_
 unfold M_es at h
 simp only [ZC, A81, V81, body_eq]
 obtain ⟨oZ9, hoZ9, h⟩ := bind_s h
 try refine ZF trivial ?_
 refine join_rule (o := oZ9) (blk_rule sideR (loop_rule (w_ay nZ0) hoZ9 ?_)) (fun vZ10 hv => ?_) (fun xZ11 hv e τ hne hq => ?_)
 · exact ZK (ZA S_ay.eq_1 SX_ay.eq_1)
 · subst hv
   simp only [] at h
   simp only [ZC, SX_ay, A81R2]
   obtain ⟨oZ26, hoZ26, h⟩ := bind_s h
   try refine ZF trivial ?_
   refine join_rule (o := oZ26) (blk_rule sideR (loop_rule (w_s nZ0) hoZ26 ?_)) (fun vZ27 hv => ?_) (fun xZ28 hv e τ hne hq => ?_)
   · exact ZK (ZA S_s.eq_1 SX_s.eq_1)
   · subst hv
     simp only [] at h
     simp only [ZC, SX_s, A81R4]
     obtain ⟨rZ29, hrZ29, h⟩ := bind_s h
     refine ZF trivial ?_
     refine ZS trivial (w_c _ _ _ hrZ29) ?_
     refine ZG ?_
     obtain ⟨cZ30, h⟩ | ⟨cZ30, h⟩ := cond_s h
     · cases h
       exact ZL cZ30 V81.eq_1
     · cases h
       exact ZL cZ30 V81.eq_1
   · subst hv
     simp only [] at h
     obtain ⟨rfl, qZ31⟩ := hq
     cases h
     exact qZ31
 · subst hv
   simp only [] at h
   obtain ⟨rfl, qZ32⟩ := hq
   cases h
   exact qZ32
theorem w_et (fZ0 : TFiber) (nodeZ0 : Int) {r : Int} (h : M_et fZ0 nodeZ0 = some r) : Ok Tryz.prog 215 [.agg [.i fZ0.A, .i fZ0.B, .i fZ0.Length, .i fZ0.Risk], .i nodeZ0] ((fun r => .i r) r) := by
 refine ok_of_body hmix m215 rfl ?_
 unfold M_et at h
 simp only [ZC, A215, V215, body_eq]
 obtain ⟨cZ1, h⟩ | ⟨cZ1, h⟩ := cond_s h
 · cases h
   exact ZL cZ1 V215.eq_1
 · obtain ⟨cZ2, h⟩ | ⟨cZ2, h⟩ := cond_s h
   · cases h
     exact ZL (ZA cZ1 cZ2) V215.eq_1
   · cases h
     exact ZL (ZA cZ1 cZ2) V215.eq_1
def S_az (sZ0 : List Int) (vZ0 : Int) (v : Int) : St := ⟨[(0, .lst .o 1 (sZ0.map AV.i)), (1, .i vZ0), (7, .i (sZ0.length : Int)), (8, .i v)], []⟩
def SX_az (v : Unit) : St := ⟨[], []⟩
theorem w_az (sZ0 : List Int) (vZ0 : Int) (sZ1 : Int) (o : Int ⊕ (Unit ⊕ Int)) (h : M_az sZ0 vZ0 sZ1 = some o) : AWP (OkS Tryz.prog) A139L1 (qL [0, 1, 7, 8] [] (S_az sZ0 vZ0) (qS (qX 0 [] [] (SX_az)) (qR V139 (fun r => .i r))) o) (S_az sZ0 vZ0 sZ1) := by
 unfold M_az at h
 simp only [ZC, S_az, A139L1]
 obtain ⟨cZ2, h⟩ | ⟨cZ2, h⟩ := cond_s h
 · obtain ⟨yZ3, hyZ3, h⟩ := bind_s h
   obtain ⟨hyZ3a, hyZ3b⟩ := geti_s hyZ3
   obtain ⟨cZ4, h⟩ | ⟨cZ4, h⟩ := cond_s h
   · cases h
     exact ZL (ZA cZ2 (ZA hyZ3a (ZA hyZ3b cZ4))) V139.eq_1
   · cases h
     exact ZL (ZA cZ2 (ZA hyZ3a (ZA hyZ3b cZ4))) (ZA S_az.eq_1 SX_az.eq_1)
 · cases h
   exact ZL cZ2 (ZA S_az.eq_1 SX_az.eq_1)
theorem w_gb (sZ0 : List Int) (vZ0 : Int) {r : Int} (h : M_gb sZ0 vZ0 = some r) : Ok Tryz.prog 139 [.lst .o 1 (sZ0.map AV.i), .i vZ0] ((fun r => .i r) r) := by
 refine ok_of_body hmix m139 rfl ?_
 unfold M_gb at h
 simp only [ZC, A139, V139, body_eq]
 obtain ⟨oZ5, hoZ5, h⟩ := bind_s h
 try refine ZF trivial ?_
 refine join_rule (o := oZ5) (blk_rule sideR (loop_rule (w_az sZ0 vZ0) hoZ5 ?_)) (fun vZ6 hv => ?_) (fun xZ7 hv e τ hne hq => ?_)
 · exact ZK (ZA S_az.eq_1 SX_az.eq_1)
 · subst hv
   simp only [] at h
   simp only [ZC, SX_az, A139R2]
   cases h
   exact ZL trivial V139.eq_1
 · subst hv
   simp only [] at h
   obtain ⟨rfl, qZ8⟩ := hq
   cases h
   exact qZ8
theorem w_ck (sZ0 : List Int) (vZ0 : Int) {r : Bool} (h : M_ck sZ0 vZ0 = some r) : Ok Tryz.prog 68 [.lst .o 1 (sZ0.map AV.i), .i vZ0] ((fun r => .b r) r) := by
 refine ok_of_body hmix m68 rfl ?_
 unfold M_ck at h
 simp only [ZC, A68, V68, body_eq]
 obtain ⟨rZ1, hrZ1, h⟩ := bind_s h
 refine ZF trivial ?_
 refine ZS trivial (w_gb _ _ hrZ1) ?_
 refine ZG ?_
 cases h
 exact ZL trivial V68.eq_1
def S_ba (nZ0 : TNetwork) (rZ0 : TRoute) (v : Int × Int × List Int) : St := ⟨[(2, .pt 2 0 0), (6, .sl 6 0 v.2.2.length), (7, .i v.1), (30, .lst .o 1 (rZ0.Fibers.map AV.i)), (31, .i (rZ0.Fibers.length : Int)), (32, .i v.2.1)], [(2, .var (.agg [.lst .o 1 (nZ0.Nodes.map AV.z), .lst .o 4 (nZ0.Fibers.map (e_TFiber .o))])), (6, .arr 1 (v.2.2.map AV.i))]⟩
def SX_ba (v : List Int) : St := ⟨[(6, .sl 6 0 v.length)], [(6, .arr 1 (v.map AV.i))]⟩
theorem w_ba (nZ0 : TNetwork) (rZ0 : TRoute) (sZ8 : Int × Int × List Int) (o : (Int × Int × List Int) ⊕ ((List Int) ⊕ (List Int × Bool))) (h : M_ba nZ0 rZ0 sZ8 = some o) : AWP (OkS Tryz.prog) A168L3 (qL [2, 6, 7, 30, 31, 32] [2, 6] (S_ba nZ0 rZ0) (qS (qX 0 [6] [6] (SX_ba)) (qR V168 (fun r => .tup [.lst .u 1 (r.1.map AV.i), .b r.2]))) o) (S_ba nZ0 rZ0 sZ8) := by
 unfold M_ba at h
 simp only [ZC, S_ba, A168L3]
 obtain ⟨cZ9, h⟩ | ⟨cZ9, h⟩ := cond_s h
 · obtain ⟨yZ10, hyZ10, h⟩ := bind_s h
   obtain ⟨hyZ10a, hyZ10b⟩ := geti_s hyZ10
   obtain ⟨rZ11, hrZ11, h⟩ := bind_s h
   refine ZF (ZA cZ9 (ZA hyZ10a hyZ10b)) ?_
   refine ZS (ZA cZ9 (ZA hyZ10a hyZ10b)) (w_c _ _ _ hrZ11) ?_
   refine ZG ?_
   obtain ⟨cZ12, h⟩ | ⟨cZ12, h⟩ := cond_s h
   · cases h
     exact ZL (ZA cZ9 (ZA hyZ10a (ZA hyZ10b cZ12))) V168.eq_1
   · obtain ⟨yZ13, hyZ13, h⟩ := bind_s h
     obtain ⟨hyZ13a, hyZ13b⟩ := geti_s hyZ13
     obtain ⟨rZ14, hrZ14, h⟩ := bind_s h
     refine ZF (ZA cZ9 (ZA hyZ10a (ZA hyZ10b (ZA cZ12 (ZA hyZ13a hyZ13b))))) ?_
     refine ZS (ZA cZ9 (ZA hyZ10a (ZA hyZ10b (ZA cZ12 (ZA hyZ13a hyZ13b))))) (w_et _ _ hrZ14) ?_
     refine ZG ?_
     obtain ⟨oZ17, hoZ17, h⟩ := bind_s h
     try refine ZF (ZA cZ9 (ZA hyZ10a (ZA hyZ10b (ZA cZ12 (ZA hyZ13a hyZ13b))))) ?_
     refine join_rule0 (sh := (fun v => ⟨[(2, .pt 2 0 0), (6, .sl 6 0 sZ8.2.2.length), (7, .i rZ14), (30, .lst .o 1 (rZ0.Fibers.map AV.i)), (31, .i (rZ0.Fibers.length : Int)), (32, .i sZ8.2.1), (56, .b v)], [(2, .var (.agg [.lst .o 1 (nZ0.Nodes.map AV.z), .lst .o 4 (nZ0.Fibers.map (e_TFiber .o))])), (6, .arr 1 (sZ8.2.2.map AV.i))]⟩)) (s := oZ17) ?_ ?_
     · replace h := hoZ17
       obtain ⟨cZ15, h⟩ | ⟨cZ15, h⟩ := cond_s h
       · cases h
         exact ZL (ZA cZ9 (ZA hyZ10a (ZA hyZ10b (ZA cZ12 (ZA hyZ13a (ZA hyZ13b cZ15)))))) trivial
       · obtain ⟨rZ16, hrZ16, h⟩ := bind_s h
         refine ZF (ZA cZ9 (ZA hyZ10a (ZA hyZ10b (ZA cZ12 (ZA hyZ13a (ZA hyZ13b cZ15)))))) ?_
         refine ZS (ZA cZ9 (ZA hyZ10a (ZA hyZ10b (ZA cZ12 (ZA hyZ13a (ZA hyZ13b cZ15)))))) (w_ck _ _ hrZ16) ?_
         refine ZG ?_
         cases h
         exact ZL (ZA cZ9 (ZA hyZ10a (ZA hyZ10b (ZA cZ12 (ZA hyZ13a (ZA hyZ13b cZ15)))))) trivial
     · simp only [ZC, A168R2]
       obtain ⟨cZ18, h⟩ | ⟨cZ18, h⟩ := cond_s h
       · cases h
         exact ZL (ZA cZ9 (ZA hyZ10a (ZA hyZ10b (ZA cZ12 (ZA hyZ13a (ZA hyZ13b cZ18)))))) V168.eq_1
       · obtain ⟨lZ19, hlZ19, h⟩ := bnd_s h
         have eZ20 : Row.arr 1 [(.i rZ14 : AV)] = Row.arr 1 (lZ19.map AV.i) := by rw [← hlZ19]; rfl
         have jjZ21 : lZ19.length = 1 := by rw [← hlZ19]; rfl
         obtain ⟨uZ22, huZ22, h⟩ := bind_s h
         have huZ22g := grd_s huZ22
         obtain ⟨lZ23, hlZ23, h⟩ := bnd_s h
         have eZ24 : sZ8.2.2.map AV.i ++ lZ19.map AV.i = lZ23.map AV.i := by rw [← hlZ23, List.map_append]
         have eZ25 : sZ8.2.2.length + 1 = lZ23.length := by simp [← hlZ19, ← hlZ23] <;> omega
         rw [eZ25] at huZ22g
         cases h
         exact ZL (ZA cZ9 (ZA hyZ10a (ZA hyZ10b (ZA cZ12 (ZA hyZ13a (ZA hyZ13b (ZA cZ18 (ZA eZ20 (ZA jjZ21 (ZA huZ22g (ZA eZ24 eZ25))))))))))) (ZA S_ba.eq_1 (ZA SX_ba.eq_1 (ZA hlZ19.symm (ZA hlZ23.symm jjZ21))))
 · cases h
   exact ZL cZ9 (ZA S_ba.eq_1 SX_ba.eq_1)
theorem w_cz (nZ0 : TNetwork) (rZ0 : TRoute) {r : List Int × Bool} (h : M_cz nZ0 rZ0 = some r) : Ok Tryz.prog 168 [.agg [.lst .o 1 (nZ0.Nodes.map AV.z), .lst .o 4 (nZ0.Fibers.map (e_TFiber .o))], .agg [.i rZ0.Start, .lst .o 1 (rZ0.Fibers.map AV.i)]] ((fun r => .tup [.lst .u 1 (r.1.map AV.i), .b r.2]) r) := by
 refine ok_of_body hmix m168 rfl ?_
 unfold M_cz at h
 simp only [ZC, A168, V168, body_eq]
 obtain ⟨oZ3, hoZ3, h⟩ := bind_s h
 try refine ZF trivial ?_
 refine join_rule0 (sh := (fun v => ⟨[(2, .pt 2 0 0), (3, .pt 3 0 0), (23, .b v)], [(2, .var (.agg [.lst .o 1 (nZ0.Nodes.map AV.z), .lst .o 4 (nZ0.Fibers.map (e_TFiber .o))])), (3, .var (.agg [.i rZ0.Start, .lst .o 1 (rZ0.Fibers.map AV.i)]))]⟩)) (s := oZ3) ?_ ?_
 · replace h := hoZ3
   obtain ⟨rZ1, hrZ1, h⟩ := bind_s h
   refine ZF trivial ?_
   refine ZS trivial (w_c _ _ _ hrZ1) ?_
   refine ZG ?_
   obtain ⟨cZ2, h⟩ | ⟨cZ2, h⟩ := cond_s h
   · cases h
     exact ZL cZ2 trivial
   · cases h
     exact ZL cZ2 trivial
 · simp only [ZC, A168R1]
   obtain ⟨cZ4, h⟩ | ⟨cZ4, h⟩ := cond_s h
   · cases h
     exact ZL cZ4 V168.eq_1
   · obtain ⟨lZ5, hlZ5, h⟩ := bnd_s h
     have eZ6 : Row.arr 1 [(.i rZ0.Start : AV)] = Row.arr 1 (lZ5.map AV.i) := by rw [← hlZ5]; rfl
     have jjZ7 : lZ5.length = 1 := by rw [← hlZ5]; rfl
     obtain ⟨oZ26, hoZ26, h⟩ := bind_s h
     try refine ZF (ZA cZ4 (ZA eZ6 jjZ7)) ?_
     refine join_rule (o := oZ26) (blk_rule sideR (loop_rule (w_ba nZ0 rZ0) hoZ26 ?_)) (fun vZ27 hv => ?_) (fun xZ28 hv e τ hne hq => ?_)
     · exact ZK (ZA S_ba.eq_1 (ZA SX_ba.eq_1 (ZA hlZ5.symm jjZ7)))
     · subst hv
       simp only [] at h
       simp only [ZC, SX_ba, A168R4]
       cases h
       exact ZL (ZA cZ4 (ZA eZ6 jjZ7)) (ZA V168.eq_1 jjZ7)
     · subst hv
       simp only [] at h
       obtain ⟨rfl, qZ29⟩ := hq
       cases h
       exact qZ29
end Vs

