/-
  Part of the proof that the law FnExactStartRestoration returns true at every input; no condition beside the row's own.
-/
import Derived.Test.YtgpbibgbfklikaaGreatCa
set_option linter.defProp false
set_option linter.unusedSimpArgs false
set_option linter.unusedVariables false
set_option maxHeartbeats 1000000
set_option maxRecDepth 8000
namespace Vs
open Go Go.Proofs
attribute [local irreducible] AWP stOps eff awpC callA callM
theorem VT1 : (∀ (f : Fl) (x : TFiber), e_TFiber f x = .agg [.i x.A, .i x.B, .i x.Length, .i x.Risk]) ∧
  (∀ (f : Fl) (x : TNetwork), e_TNetwork f x = .agg [.lst f 1 (x.Nodes.map AV.z), .lst f 4 (x.Fibers.map (e_TFiber f))]) ∧
  (∀ (f : Fl) (x : TRoute), e_TRoute f x = .agg [.i x.Start, .lst f 1 (x.Fibers.map AV.i)]) ∧
  (∀ (f : Fl) (x : TBlock), e_TBlock f x = .agg [.i x.First, .i x.Count]) ∧
  (∀ (f : Fl) (x : TLight), e_TLight f x = .agg [.i x.Id, .i x.Route.Start, .lst f 1 (x.Route.Fibers.map AV.i), .i x.Block.First, .i x.Block.Count]) ∧
  (∀ (f : Fl) (x : TPlan), e_TPlan f x = .agg [.lst f 1 (x.Network.Nodes.map AV.z), .lst f 4 (x.Network.Fibers.map (e_TFiber f)), .lst f 5 (x.Lights.map (e_TLight f))]) ∧
  (∀ (f : Fl) (x : TRestoration), e_TRestoration f x = .agg [.lst f 1 (x.Plan.Network.Nodes.map AV.z), .lst f 4 (x.Plan.Network.Fibers.map (e_TFiber f)), .lst f 5 (x.Plan.Lights.map (e_TLight f)), .lst f 5 (x.Home.map (e_TLight f)), .lst f 1 (x.Down.map AV.i)]) := ⟨fun _ _ => rfl, fun _ _ => rfl, fun _ _ => rfl, fun _ _ => rfl, fun _ _ => rfl, fun _ _ => rfl, fun _ _ => rfl⟩
theorem VT2 : (∀ (f : Fl) (x : TFiber), (e_TFiber f x).nrm = e_TFiber .o x) ∧
  (∀ (f : Fl) (xs : List TFiber), (xs.map (e_TFiber f)).map AV.nrm = xs.map (e_TFiber .o)) ∧
  (∀ (f : Fl) (x : TFiber), (e_TFiber f x).als = e_TFiber f.als x) ∧
  (∀ (f : Fl) (xs : List TFiber), (xs.map (e_TFiber f)).map AV.als = xs.map (e_TFiber f.als)) ∧
  (∀ (f : Fl) (x : TFiber), (e_TFiber f x).fix = e_TFiber f.fix x) ∧
  (∀ (f : Fl) (xs : List TFiber), (xs.map (e_TFiber f)).map AV.fix = xs.map (e_TFiber f.fix)) ∧
  (∀ (f : Fl) (x : TNetwork), (e_TNetwork f x).nrm = e_TNetwork .o x) ∧
  (∀ (f : Fl) (xs : List TNetwork), (xs.map (e_TNetwork f)).map AV.nrm = xs.map (e_TNetwork .o)) ∧
  (∀ (f : Fl) (x : TNetwork), (e_TNetwork f x).als = e_TNetwork f.als x) ∧
  (∀ (f : Fl) (xs : List TNetwork), (xs.map (e_TNetwork f)).map AV.als = xs.map (e_TNetwork f.als)) ∧
  (∀ (f : Fl) (x : TNetwork), (e_TNetwork f x).fix = e_TNetwork f.fix x) ∧
  (∀ (f : Fl) (xs : List TNetwork), (xs.map (e_TNetwork f)).map AV.fix = xs.map (e_TNetwork f.fix)) ∧
  (∀ (f : Fl) (x : TRoute), (e_TRoute f x).nrm = e_TRoute .o x) ∧
  (∀ (f : Fl) (xs : List TRoute), (xs.map (e_TRoute f)).map AV.nrm = xs.map (e_TRoute .o)) ∧
  (∀ (f : Fl) (x : TRoute), (e_TRoute f x).als = e_TRoute f.als x) ∧
  (∀ (f : Fl) (xs : List TRoute), (xs.map (e_TRoute f)).map AV.als = xs.map (e_TRoute f.als)) ∧
  (∀ (f : Fl) (x : TRoute), (e_TRoute f x).fix = e_TRoute f.fix x) ∧
  (∀ (f : Fl) (xs : List TRoute), (xs.map (e_TRoute f)).map AV.fix = xs.map (e_TRoute f.fix)) ∧
  (∀ (f : Fl) (x : TBlock), (e_TBlock f x).nrm = e_TBlock .o x) ∧
  (∀ (f : Fl) (xs : List TBlock), (xs.map (e_TBlock f)).map AV.nrm = xs.map (e_TBlock .o)) ∧
  (∀ (f : Fl) (x : TBlock), (e_TBlock f x).als = e_TBlock f.als x) ∧
  (∀ (f : Fl) (xs : List TBlock), (xs.map (e_TBlock f)).map AV.als = xs.map (e_TBlock f.als)) ∧
  (∀ (f : Fl) (x : TBlock), (e_TBlock f x).fix = e_TBlock f.fix x) ∧
  (∀ (f : Fl) (xs : List TBlock), (xs.map (e_TBlock f)).map AV.fix = xs.map (e_TBlock f.fix)) ∧
  (∀ (f : Fl) (x : TLight), (e_TLight f x).nrm = e_TLight .o x) ∧
  (∀ (f : Fl) (xs : List TLight), (xs.map (e_TLight f)).map AV.nrm = xs.map (e_TLight .o)) ∧
  (∀ (f : Fl) (x : TLight), (e_TLight f x).als = e_TLight f.als x) ∧
  (∀ (f : Fl) (xs : List TLight), (xs.map (e_TLight f)).map AV.als = xs.map (e_TLight f.als)) ∧
  (∀ (f : Fl) (x : TLight), (e_TLight f x).fix = e_TLight f.fix x) ∧
  (∀ (f : Fl) (xs : List TLight), (xs.map (e_TLight f)).map AV.fix = xs.map (e_TLight f.fix)) ∧
  (∀ (f : Fl) (x : TPlan), (e_TPlan f x).nrm = e_TPlan .o x) ∧
  (∀ (f : Fl) (xs : List TPlan), (xs.map (e_TPlan f)).map AV.nrm = xs.map (e_TPlan .o)) ∧
  (∀ (f : Fl) (x : TPlan), (e_TPlan f x).als = e_TPlan f.als x) ∧
  (∀ (f : Fl) (xs : List TPlan), (xs.map (e_TPlan f)).map AV.als = xs.map (e_TPlan f.als)) ∧
  (∀ (f : Fl) (x : TPlan), (e_TPlan f x).fix = e_TPlan f.fix x) ∧
  (∀ (f : Fl) (xs : List TPlan), (xs.map (e_TPlan f)).map AV.fix = xs.map (e_TPlan f.fix)) ∧
  (∀ (f : Fl) (x : TRestoration), (e_TRestoration f x).nrm = e_TRestoration .o x) ∧
  (∀ (f : Fl) (xs : List TRestoration), (xs.map (e_TRestoration f)).map AV.nrm = xs.map (e_TRestoration .o)) ∧
  (∀ (f : Fl) (x : TRestoration), (e_TRestoration f x).als = e_TRestoration f.als x) ∧
  (∀ (f : Fl) (xs : List TRestoration), (xs.map (e_TRestoration f)).map AV.als = xs.map (e_TRestoration f.als)) ∧
  (∀ (f : Fl) (x : TRestoration), (e_TRestoration f x).fix = e_TRestoration f.fix x) ∧
  (∀ (f : Fl) (xs : List TRestoration), (xs.map (e_TRestoration f)).map AV.fix = xs.map (e_TRestoration f.fix)) :=
  ⟨@e_TFiber_nrm, @e_TFiber_nrmm, @e_TFiber_als, @e_TFiber_alsm, @e_TFiber_fix, @e_TFiber_fixm, @e_TNetwork_nrm, @e_TNetwork_nrmm, @e_TNetwork_als, @e_TNetwork_alsm, @e_TNetwork_fix, @e_TNetwork_fixm, @e_TRoute_nrm, @e_TRoute_nrmm, @e_TRoute_als, @e_TRoute_alsm, @e_TRoute_fix, @e_TRoute_fixm, @e_TBlock_nrm, @e_TBlock_nrmm, @e_TBlock_als, @e_TBlock_alsm, @e_TBlock_fix, @e_TBlock_fixm, @e_TLight_nrm, @e_TLight_nrmm, @e_TLight_als, @e_TLight_alsm, @e_TLight_fix, @e_TLight_fixm, @e_TPlan_nrm, @e_TPlan_nrmm, @e_TPlan_als, @e_TPlan_alsm, @e_TPlan_fix, @e_TPlan_fixm, @e_TRestoration_nrm, @e_TRestoration_nrmm, @e_TRestoration_als, @e_TRestoration_alsm, @e_TRestoration_fix, @e_TRestoration_fixm⟩
theorem VF1 : (∀ (f : Fl) (x : TFiber), (e_TFiber f x).fix = e_TFiber f.fix x) ∧
  (∀ (f : Fl) (xs : List TFiber), (xs.map (e_TFiber f)).map AV.fix = xs.map (e_TFiber f.fix)) ∧
  (∀ (f : Fl) (x : TNetwork), (e_TNetwork f x).fix = e_TNetwork f.fix x) ∧
  (∀ (f : Fl) (xs : List TNetwork), (xs.map (e_TNetwork f)).map AV.fix = xs.map (e_TNetwork f.fix)) ∧
  (∀ (f : Fl) (x : TRoute), (e_TRoute f x).fix = e_TRoute f.fix x) ∧
  (∀ (f : Fl) (xs : List TRoute), (xs.map (e_TRoute f)).map AV.fix = xs.map (e_TRoute f.fix)) ∧
  (∀ (f : Fl) (x : TBlock), (e_TBlock f x).fix = e_TBlock f.fix x) ∧
  (∀ (f : Fl) (xs : List TBlock), (xs.map (e_TBlock f)).map AV.fix = xs.map (e_TBlock f.fix)) ∧
  (∀ (f : Fl) (x : TLight), (e_TLight f x).fix = e_TLight f.fix x) ∧
  (∀ (f : Fl) (xs : List TLight), (xs.map (e_TLight f)).map AV.fix = xs.map (e_TLight f.fix)) ∧
  (∀ (f : Fl) (x : TPlan), (e_TPlan f x).fix = e_TPlan f.fix x) ∧
  (∀ (f : Fl) (xs : List TPlan), (xs.map (e_TPlan f)).map AV.fix = xs.map (e_TPlan f.fix)) ∧
  (∀ (f : Fl) (x : TRestoration), (e_TRestoration f x).fix = e_TRestoration f.fix x) ∧
  (∀ (f : Fl) (xs : List TRestoration), (xs.map (e_TRestoration f)).map AV.fix = xs.map (e_TRestoration f.fix)) :=
  ⟨@e_TFiber_fix, @e_TFiber_fixm, @e_TNetwork_fix, @e_TNetwork_fixm, @e_TRoute_fix, @e_TRoute_fixm, @e_TBlock_fix, @e_TBlock_fixm, @e_TLight_fix, @e_TLight_fixm, @e_TPlan_fix, @e_TPlan_fixm, @e_TRestoration_fix, @e_TRestoration_fixm⟩
theorem VZ1 : (∀ (x : TFiber), (e_TFiber .o x).fz = true) ∧
  (∀ (xs : List TFiber), fzL (xs.map (e_TFiber .o)) = true) ∧
  (∀ (x : TFiber), (e_TFiber .u x).ouB = true) ∧
  (∀ (xs : List TFiber), ouBL (xs.map (e_TFiber .u)) = true) ∧
  (∀ (x : TNetwork), (e_TNetwork .o x).fz = true) ∧
  (∀ (xs : List TNetwork), fzL (xs.map (e_TNetwork .o)) = true) ∧
  (∀ (x : TNetwork), (e_TNetwork .u x).ouB = true) ∧
  (∀ (xs : List TNetwork), ouBL (xs.map (e_TNetwork .u)) = true) ∧
  (∀ (x : TRoute), (e_TRoute .o x).fz = true) ∧
  (∀ (xs : List TRoute), fzL (xs.map (e_TRoute .o)) = true) ∧
  (∀ (x : TRoute), (e_TRoute .u x).ouB = true) ∧
  (∀ (xs : List TRoute), ouBL (xs.map (e_TRoute .u)) = true) ∧
  (∀ (x : TBlock), (e_TBlock .o x).fz = true) ∧
  (∀ (xs : List TBlock), fzL (xs.map (e_TBlock .o)) = true) ∧
  (∀ (x : TBlock), (e_TBlock .u x).ouB = true) ∧
  (∀ (xs : List TBlock), ouBL (xs.map (e_TBlock .u)) = true) ∧
  (∀ (x : TLight), (e_TLight .o x).fz = true) ∧
  (∀ (xs : List TLight), fzL (xs.map (e_TLight .o)) = true) ∧
  (∀ (x : TLight), (e_TLight .u x).ouB = true) ∧
  (∀ (xs : List TLight), ouBL (xs.map (e_TLight .u)) = true) ∧
  (∀ (x : TPlan), (e_TPlan .o x).fz = true) ∧
  (∀ (xs : List TPlan), fzL (xs.map (e_TPlan .o)) = true) ∧
  (∀ (x : TPlan), (e_TPlan .u x).ouB = true) ∧
  (∀ (xs : List TPlan), ouBL (xs.map (e_TPlan .u)) = true) ∧
  (∀ (x : TRestoration), (e_TRestoration .o x).fz = true) ∧
  (∀ (xs : List TRestoration), fzL (xs.map (e_TRestoration .o)) = true) ∧
  (∀ (x : TRestoration), (e_TRestoration .u x).ouB = true) ∧
  (∀ (xs : List TRestoration), ouBL (xs.map (e_TRestoration .u)) = true) :=
  ⟨@e_TFiber_fz, @e_TFiber_fzm, @e_TFiber_ou, @e_TFiber_oum, @e_TNetwork_fz, @e_TNetwork_fzm, @e_TNetwork_ou, @e_TNetwork_oum, @e_TRoute_fz, @e_TRoute_fzm, @e_TRoute_ou, @e_TRoute_oum, @e_TBlock_fz, @e_TBlock_fzm, @e_TBlock_ou, @e_TBlock_oum, @e_TLight_fz, @e_TLight_fzm, @e_TLight_ou, @e_TLight_oum, @e_TPlan_fz, @e_TPlan_fzm, @e_TPlan_ou, @e_TPlan_oum, @e_TRestoration_fz, @e_TRestoration_fzm, @e_TRestoration_ou, @e_TRestoration_oum⟩
theorem Zr {α : Type} (n : Nat) (a : α) : (List.replicate n a).length = n := List.length_replicate
theorem ZA {A B : Prop} (a : A) (b : B) : A ∧ B := ⟨a, b⟩
theorem ZF {A : Prop} (a : A) {P Q : Prop} (k : Q) (e : A → P = Q := by intro a; simp only [VS1, VS2, VS3, VS4, VS5, VS6, VT1, VT2, finM_ret, finM_nrm, decide_true, decide_false, List.nodup_nil, List.nodup_cons, oks_p, oks_m, oks_h, ne_eq, not_false_eq_true, Int.reduceEq, Int.reduceNe, true_and, false_and, Nat.reduceSub, Nat.reduceMul, ↓reduceIte, reduceCtorEq, Nat.reduceEqDiff, Nat.reduceAdd, Nat.reduceLeDiff, Int.reduceLE, a]; exact Eq.refl _) : P := (e a).mpr k
theorem ZG {P Q : Prop} (k : Q) (e : P = Q := by simp only [VA, VF1, ↓reduceIte, Nat.reduceEqDiff, Nat.reduceAdd, Nat.reduceMul, Nat.reduceSub, Nat.reduceLeDiff]; exact Eq.refl _) : P := e.mpr k
theorem ZL {A : Prop} (a : A) {B : Prop} (b : B) {P : Prop} (e : A → B → P := by intro a b; (try simp only [VS1, VS2, VS3, VS4, VS5, VS6, VT1, VT2, finM_ret, finM_nrm, decide_true, decide_false, List.nodup_nil, List.nodup_cons, oks_p, oks_m, oks_h, ne_eq, not_false_eq_true, Int.reduceEq, Int.reduceNe, true_and, false_and, Nat.reduceSub, Nat.reduceMul, ↓reduceIte, reduceCtorEq, Nat.reduceEqDiff, Nat.reduceAdd, Nat.reduceLeDiff, Int.reduceLE, a]); all_goals simp [qL, qJ, qJ0, qS, qX, qR, qM, Shp, sub, tupd, finM_ret, finM_nrm, VS1, VS2, VS3, VS4, VS5, VS6, VT1, VT2, b]) : P := e a b
theorem ZK {B : Prop} (b : B) {P : Prop} (e : B → P := by intro b; simp [qL, qJ, qJ0, qS, qX, qR, qM, Shp, sub, tupd, finM_ret, finM_nrm, VS1, VS2, VS3, VS4, VS5, VS6, VT1, VT2, b]) : P := e b
theorem ZS {A : Prop} (a : A) {W : Prop} (w : W) {ok : Oks} {ρ : Nat → Option Row} {d f : Nat} {args : List AV} {K : AV → List (Nat × Row) → Prop} {v : Value} (hk : K (.sc v) [])
    (e : A → W → ok.p f (args.map (snp ρ 4)) (.sc v) := by intro a w; simp only [VS1, VS2, VS3, VS4, VS5, VS6, VT1, VT2, finM_ret, finM_nrm, decide_true, decide_false, List.nodup_nil, List.nodup_cons, oks_p, oks_m, oks_h, ne_eq, not_false_eq_true, Int.reduceEq, Int.reduceNe, true_and, false_and, Nat.reduceSub, Nat.reduceMul, ↓reduceIte, reduceCtorEq, Nat.reduceEqDiff, Nat.reduceAdd, Nat.reduceLeDiff, Int.reduceLE, a]; exact w) : callA ok ρ d f args K := call_s (e a w) hk
theorem ZU {A : Prop} (a : A) {W : Prop} (w : W) {ok : Oks} {ρ : Nat → Option Row} {d f : Nat} {args : List AV} {K : AV → List (Nat × Row) → Prop} {res : AV} (hk : K (adopt 4 d res).1 (adopt 4 d res).2.1)
    (e : A → W → ok.p f (args.map (snp ρ 4)) res := by intro a w; simp only [VS1, VS2, VS3, VS4, VS5, VS6, VT1, VT2, finM_ret, finM_nrm, decide_true, decide_false, List.nodup_nil, List.nodup_cons, oks_p, oks_m, oks_h, ne_eq, not_false_eq_true, Int.reduceEq, Int.reduceNe, true_and, false_and, Nat.reduceSub, Nat.reduceMul, ↓reduceIte, reduceCtorEq, Nat.reduceEqDiff, Nat.reduceAdd, Nat.reduceLeDiff, Int.reduceLE, a]; exact w) (hu : res.allU := by simp [AV.allU, allUL, allUL_iff, VT1, VT2]) (hn : ∀ p ∈ (adopt 4 d res).2.1, ρ p.1 = none ∧ p.1 < 1000000000 := by simp only [VS1, VS2, VS3, VS4, VS5, VS6, VT1, VT2, finM_ret, finM_nrm, decide_true, decide_false, List.nodup_nil, List.nodup_cons, oks_p, oks_m, oks_h, ne_eq, not_false_eq_true, Int.reduceEq, Int.reduceNe, true_and, false_and, Nat.reduceSub, Nat.reduceMul, ↓reduceIte, reduceCtorEq, Nat.reduceEqDiff, Nat.reduceAdd, Nat.reduceLeDiff, Int.reduceLE, Nat.reduceLT]) : callA ok ρ d f args K := call_u (e a w) hu hn hk
theorem ZQ {P : Prop} (e : P := by simp [VS1, VS2, VS3, VS4, VS5, VS6, VT1, VT2]) : P := e
theorem ZW {A : Prop} (a : A) {W : Prop} (w : W) {ok : Oks} {ρ : Nat → Option Row} {d f : Nat} {args : List AV} {rs : List Nat} {K : AV → List (Nat × Row) → Prop} {res : AV} {outs : List (Nat × Row)}
    (e : A → W → ok.m f (args.map (AV.rg (cnm rs))) (rs.map (rowIn ρ rs)) res outs := by intro a w; simp only [VS1, VS2, VS3, VS4, VS5, VS6, VT1, VT2, finM_ret, finM_nrm, decide_true, decide_false, List.nodup_nil, List.nodup_cons, oks_p, oks_m, oks_h, ne_eq, not_false_eq_true, Int.reduceEq, Int.reduceNe, true_and, false_and, Nat.reduceSub, Nat.reduceMul, ↓reduceIte, reduceCtorEq, Nat.reduceEqDiff, Nat.reduceAdd, Nat.reduceLeDiff, Int.reduceLE, a]; first | exact w | (simp only [VS1, VS2, VS3, VS4, VS5, VS6, VT1, VT2, finM_ret, finM_nrm, decide_true, decide_false, List.nodup_nil, List.nodup_cons, oks_p, oks_m, oks_h, ne_eq, not_false_eq_true, Int.reduceEq, Int.reduceNe, true_and, false_and, Nat.reduceSub, Nat.reduceMul, ↓reduceIte, reduceCtorEq, Nat.reduceEqDiff, Nat.reduceAdd, Nat.reduceLeDiff, Int.reduceLE, a] at w; exact w))
    (h1 : rs.Nodup ∧ (∀ r ∈ rs, isLive (ρ r)) ∧ (∀ r ∈ rs, ∀ q ∈ oments (ρ r), q ∈ rs) ∧ (∀ r ∈ mentsL args, r ∈ rs) := by simp [VS1, VS2, VS3, VS4, VS5, VS6, VT1, VT2])
    (h2 : (outs.map fun p => bkn d rs p.1).Nodup ∧ (∀ p ∈ outs, 1000000000 ≤ p.1 → p.1 - 1000000000 < rs.length) ∧ (∀ p ∈ outs, p.1 < 1000000000 → ρ (bkn d rs p.1) = none ∧ bkn d rs p.1 < 1000000000))
    (hk : K (res.rg (bkn d rs)) (gone rs ++ outs.map (rowBk d rs))) : callM ok ρ d f args rs K := call_m (e a w) h1 h2 hk
def S_laws_szStringSL1 (aZ0 : List ByteArray) (v : Int × Int) : St := ⟨[(0, .lst .o 1 (aZ0.map AV.z)), (1, .i v.1), (5, .i v.2)], []⟩
def SX_laws_szStringSL1 (v : Int) : St := ⟨[(1, .i v)], []⟩
theorem w_laws_szStringSL1 (aZ0 : List ByteArray) (sZ2 : Int × Int) (o : (Int × Int) ⊕ (Int ⊕ Int)) (h : M_laws_szStringSL1 aZ0 sZ2 = some o) : AWP (OkS Tryz.prog) A85L1 (qL [0, 1, 5] [] (S_laws_szStringSL1 aZ0) (qS (qX 0 [1] [] (SX_laws_szStringSL1)) (qR V85 (fun r => .i r))) o) (S_laws_szStringSL1 aZ0 sZ2) := by
  unfold M_laws_szStringSL1 at h
  simp only [ZC, S_laws_szStringSL1, A85L1]
  obtain ⟨cZ3, h⟩ | ⟨cZ3, h⟩ := cond_s h
  · obtain ⟨yZ4, hyZ4, h⟩ := bind_s h
    obtain ⟨hyZ4a, hyZ4b⟩ := geti_s hyZ4
    obtain ⟨cZ5, h⟩ | ⟨cZ5, h⟩ := cond_s h
    · cases h
      exact ZL (ZA cZ3 (ZA hyZ4a (ZA hyZ4b cZ5))) V85.eq_1
    · cases h
      exact ZL (ZA cZ3 (ZA hyZ4a (ZA hyZ4b cZ5))) (ZA S_laws_szStringSL1.eq_1 SX_laws_szStringSL1.eq_1)
  · cases h
    exact ZL cZ3 (ZA S_laws_szStringSL1.eq_1 SX_laws_szStringSL1.eq_1)
theorem w_laws_szStringS (aZ0 : List ByteArray) (leftZ0 : Int) {r : Int} (h : M_laws_szStringS aZ0 leftZ0 = some r) : Ok Tryz.prog 85 [.lst .o 1 (aZ0.map AV.z), .i leftZ0] ((fun r => .i r) r) := by
  refine ok_of_body hmix m85 rfl ?_
  unfold M_laws_szStringS at h
  simp only [ZC, A85, V85, body_eq]
  obtain ⟨cZ1, h⟩ | ⟨cZ1, h⟩ := cond_s h
  · cases h
    exact ZL cZ1 V85.eq_1
  · obtain ⟨oZ6, hoZ6, h⟩ := bind_s h
    try refine ZF cZ1 ?_
    refine join_rule (o := oZ6) (blk_rule sideR (loop_rule (w_laws_szStringSL1 aZ0) hoZ6 ?_)) (fun vZ7 hv => ?_) (fun xZ8 hv e τ hne hq => ?_)
    · exact ZK (ZA S_laws_szStringSL1.eq_1 SX_laws_szStringSL1.eq_1)
    · subst hv
      simp only [] at h
      simp only [ZC, SX_laws_szStringSL1, A85R2]
      cases h
      exact ZL cZ1 V85.eq_1
    · subst hv
      simp only [] at h
      obtain ⟨rfl, qZ9⟩ := hq
      cases h
      exact qZ9
theorem w_laws_szFiberS (aZ0 : List TFiber) (leftZ0 : Int) {r : Int} (h : M_laws_szFiberS aZ0 leftZ0 = some r) : Ok Tryz.prog 86 [.lst .o 4 (aZ0.map (e_TFiber .o)), .i leftZ0] ((fun r => .i r) r) := by
  refine ok_of_body hmix m86 rfl ?_
  unfold M_laws_szFiberS at h
  simp only [ZC, A86, V86, body_eq]
  obtain ⟨cZ1, h⟩ | ⟨cZ1, h⟩ := cond_s h
  · cases h
    exact ZL cZ1 V86.eq_1
  · cases h
    exact ZL cZ1 V86.eq_1
theorem w_laws_szNetwork (aZ0 : TNetwork) (leftZ0 : Int) {r : Int} (h : M_laws_szNetwork aZ0 leftZ0 = some r) : Ok Tryz.prog 34 [.agg [.lst .o 1 (aZ0.Nodes.map AV.z), .lst .o 4 (aZ0.Fibers.map (e_TFiber .o))], .i leftZ0] ((fun r => .i r) r) := by
  refine ok_of_body hmix m34 rfl ?_
  unfold M_laws_szNetwork at h
  simp only [ZC, A34, V34, body_eq]
  obtain ⟨rZ1, hrZ1, h⟩ := bind_s h
  refine ZF trivial ?_
  refine ZS trivial (w_laws_szStringS _ _ hrZ1) ?_
  refine ZG ?_
  obtain ⟨cZ2, h⟩ | ⟨cZ2, h⟩ := cond_s h
  · cases h
    exact ZL cZ2 V34.eq_1
  · obtain ⟨rZ3, hrZ3, h⟩ := bind_s h
    refine ZF cZ2 ?_
    refine ZS cZ2 (w_laws_szFiberS _ _ hrZ3) ?_
    refine ZG ?_
    obtain ⟨cZ4, h⟩ | ⟨cZ4, h⟩ := cond_s h
    · cases h
      exact ZL (ZA cZ2 cZ4) V34.eq_1
    · cases h
      exact ZL (ZA cZ2 cZ4) V34.eq_1
theorem w_laws_szIntS (aZ0 : List Int) (leftZ0 : Int) {r : Int} (h : M_laws_szIntS aZ0 leftZ0 = some r) : Ok Tryz.prog 60 [.lst .o 1 (aZ0.map AV.i), .i leftZ0] ((fun r => .i r) r) := by
  refine ok_of_body hmix m60 rfl ?_
  unfold M_laws_szIntS at h
  simp only [ZC, A60, V60, body_eq]
  obtain ⟨cZ1, h⟩ | ⟨cZ1, h⟩ := cond_s h
  · cases h
    exact ZL cZ1 V60.eq_1
  · cases h
    exact ZL cZ1 V60.eq_1
theorem w_laws_szRoute (aZ0 : TRoute) (leftZ0 : Int) {r : Int} (h : M_laws_szRoute aZ0 leftZ0 = some r) : Ok Tryz.prog 147 [.agg [.i aZ0.Start, .lst .o 1 (aZ0.Fibers.map AV.i)], .i leftZ0] ((fun r => .i r) r) := by
  refine ok_of_body hmix m147 rfl ?_
  unfold M_laws_szRoute at h
  simp only [ZC, A147, V147, body_eq]
  obtain ⟨rZ1, hrZ1, h⟩ := bind_s h
  refine ZF trivial ?_
  refine ZS trivial (w_laws_szIntS _ _ hrZ1) ?_
  refine ZG ?_
  obtain ⟨cZ2, h⟩ | ⟨cZ2, h⟩ := cond_s h
  · cases h
    exact ZL cZ2 V147.eq_1
  · cases h
    exact ZL cZ2 V147.eq_1
theorem w_laws_szLight (aZ0 : TLight) (leftZ0 : Int) {r : Int} (h : M_laws_szLight aZ0 leftZ0 = some r) : Ok Tryz.prog 124 [.agg [.i aZ0.Id, .i aZ0.Route.Start, .lst .o 1 (aZ0.Route.Fibers.map AV.i), .i aZ0.Block.First, .i aZ0.Block.Count], .i leftZ0] ((fun r => .i r) r) := by
  refine ok_of_body hmix m124 rfl ?_
  unfold M_laws_szLight at h
  simp only [ZC, A124, V124, body_eq]
  obtain ⟨rZ1, hrZ1, h⟩ := bind_s h
  refine ZF trivial ?_
  refine ZS trivial (w_laws_szRoute _ _ hrZ1) ?_
  refine ZG ?_
  obtain ⟨cZ2, h⟩ | ⟨cZ2, h⟩ := cond_s h
  · cases h
    exact ZL cZ2 V124.eq_1
  · cases h
    exact ZL cZ2 V124.eq_1
def S_laws_szLightSL1 (aZ0 : List TLight) (v : Int × Int) : St := ⟨[(0, .lst .o 5 (aZ0.map (e_TLight .o))), (1, .i v.1), (5, .i v.2)], []⟩
def SX_laws_szLightSL1 (v : Int) : St := ⟨[(1, .i v)], []⟩
theorem w_laws_szLightSL1 (aZ0 : List TLight) (sZ2 : Int × Int) (o : (Int × Int) ⊕ (Int ⊕ Int)) (h : M_laws_szLightSL1 aZ0 sZ2 = some o) : AWP (OkS Tryz.prog) A59L1 (qL [0, 1, 5] [] (S_laws_szLightSL1 aZ0) (qS (qX 0 [1] [] (SX_laws_szLightSL1)) (qR V59 (fun r => .i r))) o) (S_laws_szLightSL1 aZ0 sZ2) := by
  unfold M_laws_szLightSL1 at h
  simp only [ZC, S_laws_szLightSL1, A59L1]
  obtain ⟨cZ3, h⟩ | ⟨cZ3, h⟩ := cond_s h
  · obtain ⟨yZ4, hyZ4, h⟩ := bind_s h
    obtain ⟨hyZ4a, hyZ4b⟩ := geti_s hyZ4
    obtain ⟨rZ5, hrZ5, h⟩ := bind_s h
    refine ZF (ZA cZ3 (ZA hyZ4a hyZ4b)) ?_
    refine ZS (ZA cZ3 (ZA hyZ4a hyZ4b)) (w_laws_szLight _ _ hrZ5) ?_
    refine ZG ?_
    obtain ⟨cZ6, h⟩ | ⟨cZ6, h⟩ := cond_s h
    · cases h
      exact ZL (ZA cZ3 (ZA hyZ4a (ZA hyZ4b cZ6))) V59.eq_1
    · cases h
      exact ZL (ZA cZ3 (ZA hyZ4a (ZA hyZ4b cZ6))) (ZA S_laws_szLightSL1.eq_1 SX_laws_szLightSL1.eq_1)
  · cases h
    exact ZL cZ3 (ZA S_laws_szLightSL1.eq_1 SX_laws_szLightSL1.eq_1)
theorem w_laws_szLightS (aZ0 : List TLight) (leftZ0 : Int) {r : Int} (h : M_laws_szLightS aZ0 leftZ0 = some r) : Ok Tryz.prog 59 [.lst .o 5 (aZ0.map (e_TLight .o)), .i leftZ0] ((fun r => .i r) r) := by
  refine ok_of_body hmix m59 rfl ?_
  unfold M_laws_szLightS at h
  simp only [ZC, A59, V59, body_eq]
  obtain ⟨cZ1, h⟩ | ⟨cZ1, h⟩ := cond_s h
  · cases h
    exact ZL cZ1 V59.eq_1
  · obtain ⟨oZ7, hoZ7, h⟩ := bind_s h
    try refine ZF cZ1 ?_
    refine join_rule (o := oZ7) (blk_rule sideR (loop_rule (w_laws_szLightSL1 aZ0) hoZ7 ?_)) (fun vZ8 hv => ?_) (fun xZ9 hv e τ hne hq => ?_)
    · exact ZK (ZA S_laws_szLightSL1.eq_1 SX_laws_szLightSL1.eq_1)
    · subst hv
      simp only [] at h
      simp only [ZC, SX_laws_szLightSL1, A59R2]
      cases h
      exact ZL cZ1 V59.eq_1
    · subst hv
      simp only [] at h
      obtain ⟨rfl, qZ10⟩ := hq
      cases h
      exact qZ10
theorem w_laws_szPlan (aZ0 : TPlan) (leftZ0 : Int) {r : Int} (h : M_laws_szPlan aZ0 leftZ0 = some r) : Ok Tryz.prog 24 [.agg [.lst .o 1 (aZ0.Network.Nodes.map AV.z), .lst .o 4 (aZ0.Network.Fibers.map (e_TFiber .o)), .lst .o 5 (aZ0.Lights.map (e_TLight .o))], .i leftZ0] ((fun r => .i r) r) := by
  refine ok_of_body hmix m24 rfl ?_
  unfold M_laws_szPlan at h
  simp only [ZC, A24, V24, body_eq]
  obtain ⟨rZ1, hrZ1, h⟩ := bind_s h
  refine ZF trivial ?_
  refine ZS trivial (w_laws_szNetwork _ _ hrZ1) ?_
  refine ZG ?_
  obtain ⟨cZ2, h⟩ | ⟨cZ2, h⟩ := cond_s h
  · cases h
    exact ZL cZ2 V24.eq_1
  · obtain ⟨rZ3, hrZ3, h⟩ := bind_s h
    refine ZF cZ2 ?_
    refine ZS cZ2 (w_laws_szLightS _ _ hrZ3) ?_
    refine ZG ?_
    obtain ⟨cZ4, h⟩ | ⟨cZ4, h⟩ := cond_s h
    · cases h
      exact ZL (ZA cZ2 cZ4) V24.eq_1
    · cases h
      exact ZL (ZA cZ2 cZ4) V24.eq_1
def S_laws_toStringSL1 (aZ0 : List ByteArray) (v : Int × List ByteArray) : St := ⟨[(0, .lst .o 1 (aZ0.map AV.z)), (3, .sl 3 0 v.2.length), (4, .i v.1)], [(3, .arr 1 (v.2.map AV.z))]⟩
def SX_laws_toStringSL1 (v : List ByteArray) : St := ⟨[(3, .sl 3 0 v.length)], [(3, .arr 1 (v.map AV.z))]⟩
theorem w_laws_toStringSL1 (aZ0 : List ByteArray) (sZ4 : Int × List ByteArray) (o : (Int × List ByteArray) ⊕ (List ByteArray)) (h : M_laws_toStringSL1 aZ0 sZ4 = some o) : AWP (OkS Tryz.prog) A91L1 (qL [0, 3, 4] [3] (S_laws_toStringSL1 aZ0) (qX 0 [3] [3] (SX_laws_toStringSL1)) o) (S_laws_toStringSL1 aZ0 sZ4) := by
  unfold M_laws_toStringSL1 at h
  simp only [ZC, S_laws_toStringSL1, A91L1]
  obtain ⟨cZ5, h⟩ | ⟨cZ5, h⟩ := cond_s h
  · obtain ⟨yZ6, hyZ6, h⟩ := bind_s h
    obtain ⟨hyZ6a, hyZ6b⟩ := geti_s hyZ6
    obtain ⟨kZ7, hkZ7, h⟩ := bind_s h
    obtain ⟨hkZ7a, hkZ7b⟩ := grd_s hkZ7
    obtain ⟨yZ8, hyZ8, h⟩ := bind_s h
    obtain ⟨lZ9, hlZ9, h⟩ := bnd_s h
    have eZ10 : (sZ4.2.map AV.z).set (Int.toNat sZ4.1) (.z yZ6) = lZ9.map AV.z := by rw [← hlZ9, List.map_set]
    cases h
    exact ZL (ZA cZ5 (ZA hyZ6a (ZA hyZ6b (ZA hkZ7a (ZA hkZ7b (ZA hyZ8 eZ10)))))) (ZA S_laws_toStringSL1.eq_1 (ZA SX_laws_toStringSL1.eq_1 hlZ9.symm))
  · cases h
    exact ZL cZ5 (ZA S_laws_toStringSL1.eq_1 SX_laws_toStringSL1.eq_1)
theorem w_laws_toStringS (aZ0 : List ByteArray) {r : List ByteArray} (h : M_laws_toStringS aZ0 = some r) : Ok Tryz.prog 91 [.lst .o 1 (aZ0.map AV.z)] ((fun r => .lst .u 1 (r.map AV.z)) r) := by
  refine ok_of_body hmix m91 rfl ?_
  unfold M_laws_toStringS at h
  simp only [ZC, A91, V91, body_eq]
  obtain ⟨uZ1, huZ1, h⟩ := bind_s h
  obtain ⟨huZ11, huZ12, huZ13, huZ14⟩ := grd_s huZ1
  obtain ⟨lZ2, hlZ2, h⟩ := bnd_s h
  have eZ3 : List.replicate (Int.toNat (aZ0.length : Int)) (.z (⟨#[]⟩ : ByteArray) : AV) = lZ2.map AV.z := by rw [← hlZ2, List.map_replicate]
  obtain ⟨oZ11, hoZ11, h⟩ := bind_s h
  try refine ZF (ZA huZ11 (ZA huZ12 (ZA huZ13 (ZA huZ14 eZ3)))) ?_
  refine join_rule0 (blk_rule0 (loop_rule (w_laws_toStringSL1 aZ0) hoZ11 ?_)) ?_
  · exact ZK (ZA S_laws_toStringSL1.eq_1 (ZA SX_laws_toStringSL1.eq_1 (ZA hlZ2.symm @Zr)))
  · simp only [ZC, SX_laws_toStringSL1, A91R2]
    cases h
    exact ZL (ZA huZ11 (ZA huZ12 (ZA huZ13 (ZA huZ14 eZ3)))) V91.eq_1
theorem w_laws_toFiber (aZ0 : TFiber) {r : TFiber} (h : M_laws_toFiber aZ0 = some r) : Ok Tryz.prog 150 [.agg [.i aZ0.A, .i aZ0.B, .i aZ0.Length, .i aZ0.Risk]] ((fun r => .agg [.i r.A, .i r.B, .i r.Length, .i r.Risk]) r) := by
  refine ok_of_body hmix m150 rfl ?_
  unfold M_laws_toFiber at h
  simp only [ZC, A150, V150, body_eq]
  cases h
  exact ZL trivial V150.eq_1
def S_laws_toFiberSL1 (aZ0 : List TFiber) (v : Int × List TFiber) : St := ⟨[(0, .lst .o 4 (aZ0.map (e_TFiber .o))), (3, .sl 3 0 v.2.length), (4, .i v.1)], [(3, .arr 4 (v.2.map (e_TFiber .u)))]⟩
def SX_laws_toFiberSL1 (v : List TFiber) : St := ⟨[(3, .sl 3 0 v.length)], [(3, .arr 4 (v.map (e_TFiber .u)))]⟩
theorem w_laws_toFiberSL1 (aZ0 : List TFiber) (sZ4 : Int × List TFiber) (o : (Int × List TFiber) ⊕ (List TFiber)) (h : M_laws_toFiberSL1 aZ0 sZ4 = some o) : AWP (OkS Tryz.prog) A92L1 (qL [0, 3, 4] [3] (S_laws_toFiberSL1 aZ0) (qX 0 [3] [3] (SX_laws_toFiberSL1)) o) (S_laws_toFiberSL1 aZ0 sZ4) := by
  unfold M_laws_toFiberSL1 at h
  simp only [ZC, S_laws_toFiberSL1, A92L1]
  obtain ⟨cZ5, h⟩ | ⟨cZ5, h⟩ := cond_s h
  · obtain ⟨yZ6, hyZ6, h⟩ := bind_s h
    obtain ⟨hyZ6a, hyZ6b⟩ := geti_s hyZ6
    obtain ⟨rZ7, hrZ7, h⟩ := bind_s h
    refine ZF (ZA cZ5 (ZA hyZ6a hyZ6b)) ?_
    refine ZU (ZA cZ5 (ZA hyZ6a hyZ6b)) (w_laws_toFiber _ hrZ7) ?_
    refine ZG ?_
    obtain ⟨kZ8, hkZ8, h⟩ := bind_s h
    obtain ⟨hkZ8a, hkZ8b⟩ := grd_s hkZ8
    obtain ⟨yZ9, hyZ9, h⟩ := bind_s h
    obtain ⟨lZ10, hlZ10, h⟩ := bnd_s h
    have eZ11 : (sZ4.2.map (e_TFiber .u)).set (Int.toNat sZ4.1) (.agg [.i rZ7.A, .i rZ7.B, .i rZ7.Length, .i rZ7.Risk]) = lZ10.map (e_TFiber .u) := by rw [← hlZ10, List.map_set]; rfl
    cases h
    exact ZL (ZA cZ5 (ZA hyZ6a (ZA hyZ6b (ZA hkZ8a (ZA hkZ8b (ZA hyZ9 eZ11)))))) (ZA S_laws_toFiberSL1.eq_1 (ZA SX_laws_toFiberSL1.eq_1 hlZ10.symm))
  · cases h
    exact ZL cZ5 (ZA S_laws_toFiberSL1.eq_1 SX_laws_toFiberSL1.eq_1)
theorem w_laws_toFiberS (aZ0 : List TFiber) {r : List TFiber} (h : M_laws_toFiberS aZ0 = some r) : Ok Tryz.prog 92 [.lst .o 4 (aZ0.map (e_TFiber .o))] ((fun r => .lst .u 4 (r.map (e_TFiber .u))) r) := by
  refine ok_of_body hmix m92 rfl ?_
  unfold M_laws_toFiberS at h
  simp only [ZC, A92, V92, body_eq]
  obtain ⟨uZ1, huZ1, h⟩ := bind_s h
  obtain ⟨huZ11, huZ12, huZ13, huZ14⟩ := grd_s huZ1
  obtain ⟨lZ2, hlZ2, h⟩ := bnd_s h
  have eZ3 : List.replicate (Int.toNat (aZ0.length : Int)) (.agg [.i 0, .i 0, .i 0, .i 0] : AV) = lZ2.map (e_TFiber .u) := by rw [← hlZ2, List.map_replicate]; rfl
  obtain ⟨oZ12, hoZ12, h⟩ := bind_s h
  try refine ZF (ZA huZ11 (ZA huZ12 (ZA huZ13 (ZA huZ14 eZ3)))) ?_
  refine join_rule0 (blk_rule0 (loop_rule (w_laws_toFiberSL1 aZ0) hoZ12 ?_)) ?_
  · exact ZK (ZA S_laws_toFiberSL1.eq_1 (ZA SX_laws_toFiberSL1.eq_1 (ZA hlZ2.symm @Zr)))
  · simp only [ZC, SX_laws_toFiberSL1, A92R2]
    cases h
    exact ZL (ZA huZ11 (ZA huZ12 (ZA huZ13 (ZA huZ14 eZ3)))) V92.eq_1
theorem w_laws_toNetwork (aZ0 : TNetwork) {r : TNetwork} (h : M_laws_toNetwork aZ0 = some r) : Ok Tryz.prog 37 [.agg [.lst .o 1 (aZ0.Nodes.map AV.z), .lst .o 4 (aZ0.Fibers.map (e_TFiber .o))]] ((fun r => .agg [.lst .u 1 (r.Nodes.map AV.z), .lst .u 4 (r.Fibers.map (e_TFiber .u))]) r) := by
  refine ok_of_body hmix m37 rfl ?_
  unfold M_laws_toNetwork at h
  simp only [ZC, A37, V37, body_eq]
  obtain ⟨rZ1, hrZ1, h⟩ := bind_s h
  refine ZF trivial ?_
  refine ZU trivial (w_laws_toStringS _ hrZ1) ?_
  refine ZG ?_
  obtain ⟨rZ2, hrZ2, h⟩ := bind_s h
  refine ZF trivial ?_
  refine ZU trivial (w_laws_toFiberS _ hrZ2) ?_
  refine ZG ?_
  cases h
  exact ZL trivial V37.eq_1
def S_laws_toIntSL1 (aZ0 : List Int) (v : Int × List Int) : St := ⟨[(0, .lst .o 1 (aZ0.map AV.i)), (3, .sl 3 0 v.2.length), (4, .i v.1)], [(3, .arr 1 (v.2.map AV.i))]⟩
def SX_laws_toIntSL1 (v : List Int) : St := ⟨[(3, .sl 3 0 v.length)], [(3, .arr 1 (v.map AV.i))]⟩
theorem w_laws_toIntSL1 (aZ0 : List Int) (sZ4 : Int × List Int) (o : (Int × List Int) ⊕ (List Int)) (h : M_laws_toIntSL1 aZ0 sZ4 = some o) : AWP (OkS Tryz.prog) A32L1 (qL [0, 3, 4] [3] (S_laws_toIntSL1 aZ0) (qX 0 [3] [3] (SX_laws_toIntSL1)) o) (S_laws_toIntSL1 aZ0 sZ4) := by
  unfold M_laws_toIntSL1 at h
  simp only [ZC, S_laws_toIntSL1, A32L1]
  obtain ⟨cZ5, h⟩ | ⟨cZ5, h⟩ := cond_s h
  · obtain ⟨yZ6, hyZ6, h⟩ := bind_s h
    obtain ⟨hyZ6a, hyZ6b⟩ := geti_s hyZ6
    obtain ⟨kZ7, hkZ7, h⟩ := bind_s h
    obtain ⟨hkZ7a, hkZ7b⟩ := grd_s hkZ7
    obtain ⟨yZ8, hyZ8, h⟩ := bind_s h
    obtain ⟨lZ9, hlZ9, h⟩ := bnd_s h
    have eZ10 : (sZ4.2.map AV.i).set (Int.toNat sZ4.1) (.i yZ6) = lZ9.map AV.i := by rw [← hlZ9, List.map_set]
    cases h
    exact ZL (ZA cZ5 (ZA hyZ6a (ZA hyZ6b (ZA hkZ7a (ZA hkZ7b (ZA hyZ8 eZ10)))))) (ZA S_laws_toIntSL1.eq_1 (ZA SX_laws_toIntSL1.eq_1 hlZ9.symm))
  · cases h
    exact ZL cZ5 (ZA S_laws_toIntSL1.eq_1 SX_laws_toIntSL1.eq_1)
theorem w_laws_toIntS (aZ0 : List Int) {r : List Int} (h : M_laws_toIntS aZ0 = some r) : Ok Tryz.prog 32 [.lst .o 1 (aZ0.map AV.i)] ((fun r => .lst .u 1 (r.map AV.i)) r) := by
  refine ok_of_body hmix m32 rfl ?_
  unfold M_laws_toIntS at h
  simp only [ZC, A32, V32, body_eq]
  obtain ⟨uZ1, huZ1, h⟩ := bind_s h
  obtain ⟨huZ11, huZ12, huZ13, huZ14⟩ := grd_s huZ1
  obtain ⟨lZ2, hlZ2, h⟩ := bnd_s h
  have eZ3 : List.replicate (Int.toNat (aZ0.length : Int)) (.i 0 : AV) = lZ2.map AV.i := by rw [← hlZ2, List.map_replicate]
  obtain ⟨oZ11, hoZ11, h⟩ := bind_s h
  try refine ZF (ZA huZ11 (ZA huZ12 (ZA huZ13 (ZA huZ14 eZ3)))) ?_
  refine join_rule0 (blk_rule0 (loop_rule (w_laws_toIntSL1 aZ0) hoZ11 ?_)) ?_
  · exact ZK (ZA S_laws_toIntSL1.eq_1 (ZA SX_laws_toIntSL1.eq_1 (ZA hlZ2.symm @Zr)))
  · simp only [ZC, SX_laws_toIntSL1, A32R2]
    cases h
    exact ZL (ZA huZ11 (ZA huZ12 (ZA huZ13 (ZA huZ14 eZ3)))) V32.eq_1
theorem w_laws_toRoute (aZ0 : TRoute) {r : TRoute} (h : M_laws_toRoute aZ0 = some r) : Ok Tryz.prog 151 [.agg [.i aZ0.Start, .lst .o 1 (aZ0.Fibers.map AV.i)]] ((fun r => .agg [.i r.Start, .lst .u 1 (r.Fibers.map AV.i)]) r) := by
  refine ok_of_body hmix m151 rfl ?_
  unfold M_laws_toRoute at h
  simp only [ZC, A151, V151, body_eq]
  obtain ⟨rZ1, hrZ1, h⟩ := bind_s h
  refine ZF trivial ?_
  refine ZU trivial (w_laws_toIntS _ hrZ1) ?_
  refine ZG ?_
  cases h
  exact ZL trivial V151.eq_1
theorem w_laws_toBlock (aZ0 : TBlock) {r : TBlock} (h : M_laws_toBlock aZ0 = some r) : Ok Tryz.prog 152 [.agg [.i aZ0.First, .i aZ0.Count]] ((fun r => .agg [.i r.First, .i r.Count]) r) := by
  refine ok_of_body hmix m152 rfl ?_
  unfold M_laws_toBlock at h
  simp only [ZC, A152, V152, body_eq]
  cases h
  exact ZL trivial V152.eq_1
theorem w_laws_toLight (aZ0 : TLight) {r : TLight} (h : M_laws_toLight aZ0 = some r) : Ok Tryz.prog 127 [.agg [.i aZ0.Id, .i aZ0.Route.Start, .lst .o 1 (aZ0.Route.Fibers.map AV.i), .i aZ0.Block.First, .i aZ0.Block.Count]] ((fun r => .agg [.i r.Id, .i r.Route.Start, .lst .u 1 (r.Route.Fibers.map AV.i), .i r.Block.First, .i r.Block.Count]) r) := by
  refine ok_of_body hmix m127 rfl ?_
  unfold M_laws_toLight at h
  simp only [ZC, A127, V127, body_eq]
  obtain ⟨rZ1, hrZ1, h⟩ := bind_s h
  refine ZF trivial ?_
  refine ZU trivial (w_laws_toRoute _ hrZ1) ?_
  refine ZG ?_
  obtain ⟨rZ2, hrZ2, h⟩ := bind_s h
  refine ZF trivial ?_
  refine ZU trivial (w_laws_toBlock _ hrZ2) ?_
  refine ZG ?_
  cases h
  exact ZL trivial V127.eq_1
def S_laws_toLightSL1 (aZ0 : List TLight) (v : Int × List TLight) : St := ⟨[(0, .lst .o 5 (aZ0.map (e_TLight .o))), (3, .sl 3 0 v.2.length), (4, .i v.1)], [(3, .arr 5 (v.2.map (e_TLight .u)))]⟩
def SX_laws_toLightSL1 (v : List TLight) : St := ⟨[(3, .sl 3 0 v.length)], [(3, .arr 5 (v.map (e_TLight .u)))]⟩
theorem w_laws_toLightSL1 (aZ0 : List TLight) (sZ4 : Int × List TLight) (o : (Int × List TLight) ⊕ (List TLight)) (h : M_laws_toLightSL1 aZ0 sZ4 = some o) : AWP (OkS Tryz.prog) A62L1 (qL [0, 3, 4] [3] (S_laws_toLightSL1 aZ0) (qX 0 [3] [3] (SX_laws_toLightSL1)) o) (S_laws_toLightSL1 aZ0 sZ4) := by
  unfold M_laws_toLightSL1 at h
  simp only [ZC, S_laws_toLightSL1, A62L1]
  obtain ⟨cZ5, h⟩ | ⟨cZ5, h⟩ := cond_s h
  · obtain ⟨yZ6, hyZ6, h⟩ := bind_s h
    obtain ⟨hyZ6a, hyZ6b⟩ := geti_s hyZ6
    obtain ⟨rZ7, hrZ7, h⟩ := bind_s h
    refine ZF (ZA cZ5 (ZA hyZ6a hyZ6b)) ?_
    refine ZU (ZA cZ5 (ZA hyZ6a hyZ6b)) (w_laws_toLight _ hrZ7) ?_
    refine ZG ?_
    obtain ⟨kZ8, hkZ8, h⟩ := bind_s h
    obtain ⟨hkZ8a, hkZ8b⟩ := grd_s hkZ8
    obtain ⟨yZ9, hyZ9, h⟩ := bind_s h
    obtain ⟨lZ10, hlZ10, h⟩ := bnd_s h
    have eZ11 : (sZ4.2.map (e_TLight .u)).set (Int.toNat sZ4.1) (.agg [.i rZ7.Id, .i rZ7.Route.Start, .lst .u 1 (rZ7.Route.Fibers.map AV.i), .i rZ7.Block.First, .i rZ7.Block.Count]) = lZ10.map (e_TLight .u) := by rw [← hlZ10, List.map_set]; rfl
    cases h
    exact ZL (ZA cZ5 (ZA hyZ6a (ZA hyZ6b (ZA hkZ8a (ZA hkZ8b (ZA hyZ9 eZ11)))))) (ZA S_laws_toLightSL1.eq_1 (ZA SX_laws_toLightSL1.eq_1 hlZ10.symm))
  · cases h
    exact ZL cZ5 (ZA S_laws_toLightSL1.eq_1 SX_laws_toLightSL1.eq_1)
theorem w_laws_toLightS (aZ0 : List TLight) {r : List TLight} (h : M_laws_toLightS aZ0 = some r) : Ok Tryz.prog 62 [.lst .o 5 (aZ0.map (e_TLight .o))] ((fun r => .lst .u 5 (r.map (e_TLight .u))) r) := by
  refine ok_of_body hmix m62 rfl ?_
  unfold M_laws_toLightS at h
  simp only [ZC, A62, V62, body_eq]
  obtain ⟨uZ1, huZ1, h⟩ := bind_s h
  obtain ⟨huZ11, huZ12, huZ13, huZ14⟩ := grd_s huZ1
  obtain ⟨lZ2, hlZ2, h⟩ := bnd_s h
  have eZ3 : List.replicate (Int.toNat (aZ0.length : Int)) (.agg [.i 0, .i 0, .lst .u 1 [], .i 0, .i 0] : AV) = lZ2.map (e_TLight .u) := by rw [← hlZ2, List.map_replicate]; rfl
  obtain ⟨oZ12, hoZ12, h⟩ := bind_s h
  try refine ZF (ZA huZ11 (ZA huZ12 (ZA huZ13 (ZA huZ14 eZ3)))) ?_
  refine join_rule0 (blk_rule0 (loop_rule (w_laws_toLightSL1 aZ0) hoZ12 ?_)) ?_
  · exact ZK (ZA S_laws_toLightSL1.eq_1 (ZA SX_laws_toLightSL1.eq_1 (ZA hlZ2.symm @Zr)))
  · simp only [ZC, SX_laws_toLightSL1, A62R2]
    cases h
    exact ZL (ZA huZ11 (ZA huZ12 (ZA huZ13 (ZA huZ14 eZ3)))) V62.eq_1
theorem w_laws_toPlan (aZ0 : TPlan) {r : TPlan} (h : M_laws_toPlan aZ0 = some r) : Ok Tryz.prog 26 [.agg [.lst .o 1 (aZ0.Network.Nodes.map AV.z), .lst .o 4 (aZ0.Network.Fibers.map (e_TFiber .o)), .lst .o 5 (aZ0.Lights.map (e_TLight .o))]] ((fun r => .agg [.lst .u 1 (r.Network.Nodes.map AV.z), .lst .u 4 (r.Network.Fibers.map (e_TFiber .u)), .lst .u 5 (r.Lights.map (e_TLight .u))]) r) := by
  refine ok_of_body hmix m26 rfl ?_
  unfold M_laws_toPlan at h
  simp only [ZC, A26, V26, body_eq]
  obtain ⟨rZ1, hrZ1, h⟩ := bind_s h
  refine ZF trivial ?_
  refine ZU trivial (w_laws_toNetwork _ hrZ1) ?_
  refine ZG ?_
  obtain ⟨rZ2, hrZ2, h⟩ := bind_s h
  refine ZF trivial ?_
  refine ZU trivial (w_laws_toLightS _ hrZ2) ?_
  refine ZG ?_
  cases h
  exact ZL trivial V26.eq_1
theorem w_spec_l1In (xZ0 : Int) (aZ0 : Int) (bZ0 : Int) {r : Bool} (h : M_spec_l1In xZ0 aZ0 bZ0 = some r) : Ok Tryz.prog 178 [.i xZ0, .i aZ0, .i bZ0] ((fun r => .b r) r) := by
  refine ok_of_body hmix m178 rfl ?_
  unfold M_spec_l1In at h
  simp only [ZC, A178, V178, body_eq]
  obtain ⟨cZ1, h⟩ | ⟨cZ1, h⟩ := cond_s h
  · cases h
    exact ZL cZ1 V178.eq_1
  · cases h
    exact ZL cZ1 V178.eq_1
theorem w_spec_l2Sign (bZ0 : Int) {r : Bool} (h : M_spec_l2Sign bZ0 = some r) : Ok Tryz.prog 224 [.sc (.int .u8 bZ0)] ((fun r => .b r) r) := by
  refine ok_of_body hmix m224 rfl ?_
  unfold M_spec_l2Sign at h
  simp only [ZC, A224, V224, body_eq]
  obtain ⟨cZ1, h⟩ | ⟨cZ1, h⟩ := cond_s h
  · obtain ⟨cZ2, h⟩ | ⟨cZ2, h⟩ := cond_s h
    · cases h
      exact ZL (ZA cZ1 cZ2) V224.eq_1
    · obtain ⟨cZ3, h⟩ | ⟨cZ3, h⟩ := cond_s h
      · cases h
        exact ZL (ZA cZ1 (ZA cZ2 cZ3)) V224.eq_1
      · cases h
        exact ZL (ZA cZ1 (ZA cZ2 cZ3)) V224.eq_1
  · obtain ⟨cZ4, h⟩ | ⟨cZ4, h⟩ := cond_s h
    · cases h
      exact ZL (ZA cZ1 cZ4) V224.eq_1
    · cases h
      exact ZL (ZA cZ1 cZ4) V224.eq_1
def S_spec_l2NameL1 (sZ0 : ByteArray) (v : Int) : St := ⟨[(0, .z sZ0), (3, .i v)], []⟩
def SX_spec_l2NameL1 (v : Unit) : St := ⟨[], []⟩
theorem w_spec_l2NameL1 (sZ0 : ByteArray) (sZ7 : Int) (o : Int ⊕ (Unit ⊕ Bool)) (h : M_spec_l2NameL1 sZ0 sZ7 = some o) : AWP (OkS Tryz.prog) A187L2 (qL [0, 3] [] (S_spec_l2NameL1 sZ0) (qS (qX 0 [] [] (SX_spec_l2NameL1)) (qR V187 (fun r => .b r))) o) (S_spec_l2NameL1 sZ0 sZ7) := by
  unfold M_spec_l2NameL1 at h
  simp only [ZC, S_spec_l2NameL1, A187L2]
  obtain ⟨cZ8, h⟩ | ⟨cZ8, h⟩ := cond_s h
  · obtain ⟨yZ9, hyZ9, h⟩ := bind_s h
    obtain ⟨hyZ9a, hyZ9b⟩ := getz_s hyZ9
    obtain ⟨rZ10, hrZ10, h⟩ := bind_s h
    refine ZF (ZA cZ8 (ZA hyZ9a hyZ9b)) ?_
    refine ZS (ZA cZ8 (ZA hyZ9a hyZ9b)) (w_spec_l2Sign _ hrZ10) ?_
    refine ZG ?_
    obtain ⟨cZ11, h⟩ | ⟨cZ11, h⟩ := cond_s h
    · cases h
      exact ZL (ZA cZ8 (ZA hyZ9a (ZA hyZ9b cZ11))) V187.eq_1
    · cases h
      exact ZL (ZA cZ8 (ZA hyZ9a (ZA hyZ9b cZ11))) (ZA S_spec_l2NameL1.eq_1 SX_spec_l2NameL1.eq_1)
  · cases h
    exact ZL cZ8 (ZA S_spec_l2NameL1.eq_1 SX_spec_l2NameL1.eq_1)
theorem w_spec_l2Name (sZ0 : ByteArray) {r : Bool} (h : M_spec_l2Name sZ0 = some r) : Ok Tryz.prog 187 [.z sZ0] ((fun r => .b r) r) := by
  refine ok_of_body hmix m187 rfl ?_
  unfold M_spec_l2Name at h
  simp only [ZC, A187, V187, body_eq]
  obtain ⟨oZ5, hoZ5, h⟩ := bind_s h
  try refine ZF trivial ?_
  refine join_rule0 (sh := (fun v => ⟨[(0, .z sZ0), (17, .b v)], []⟩)) (s := oZ5) ?_ ?_
  · replace h := hoZ5
    obtain ⟨rZ1, hrZ1, h⟩ := bind_s h
    refine ZF trivial ?_
    refine ZS trivial (w_spec_l1In _ _ _ hrZ1) ?_
    refine ZG ?_
    obtain ⟨cZ2, h⟩ | ⟨cZ2, h⟩ := cond_s h
    · cases h
      exact ZL cZ2 trivial
    · obtain ⟨yZ3, hyZ3, h⟩ := bind_s h
      obtain ⟨hyZ3a, hyZ3b⟩ := getz_s hyZ3
      obtain ⟨cZ4, h⟩ | ⟨cZ4, h⟩ := cond_s h
      · cases h
        exact ZL (ZA cZ2 (ZA hyZ3a (ZA hyZ3b cZ4))) trivial
      · cases h
        exact ZL (ZA cZ2 (ZA hyZ3a (ZA hyZ3b cZ4))) trivial
  · simp only [ZC, A187R1]
    obtain ⟨cZ6, h⟩ | ⟨cZ6, h⟩ := cond_s h
    · cases h
      exact ZL cZ6 V187.eq_1
    · obtain ⟨oZ12, hoZ12, h⟩ := bind_s h
      try refine ZF cZ6 ?_
      refine join_rule (o := oZ12) (blk_rule sideR (loop_rule (w_spec_l2NameL1 sZ0) hoZ12 ?_)) (fun vZ13 hv => ?_) (fun xZ14 hv e τ hne hq => ?_)
      · exact ZK (ZA S_spec_l2NameL1.eq_1 SX_spec_l2NameL1.eq_1)
      · subst hv
        simp only [] at h
        simp only [ZC, SX_spec_l2NameL1, A187R3]
        cases h
        exact ZL cZ6 V187.eq_1
      · subst hv
        simp only [] at h
        obtain ⟨rfl, qZ15⟩ := hq
        cases h
        exact qZ15
def S_spec_l2FindL1 (listZ0 : List ByteArray) (nameZ0 : ByteArray) (v : Int) : St := ⟨[(0, .lst .o 1 (listZ0.map AV.z)), (1, .z nameZ0), (5, .i v)], []⟩
def SX_spec_l2FindL1 (v : Unit) : St := ⟨[], []⟩
theorem w_spec_l2FindL1 (listZ0 : List ByteArray) (nameZ0 : ByteArray) (sZ1 : Int) (o : Int ⊕ (Unit ⊕ Int)) (h : M_spec_l2FindL1 listZ0 nameZ0 sZ1 = some o) : AWP (OkS Tryz.prog) A188L1 (qL [0, 1, 5] [] (S_spec_l2FindL1 listZ0 nameZ0) (qS (qX 0 [] [] (SX_spec_l2FindL1)) (qR V188 (fun r => .i r))) o) (S_spec_l2FindL1 listZ0 nameZ0 sZ1) := by
  unfold M_spec_l2FindL1 at h
  simp only [ZC, S_spec_l2FindL1, A188L1]
  obtain ⟨cZ2, h⟩ | ⟨cZ2, h⟩ := cond_s h
  · obtain ⟨yZ3, hyZ3, h⟩ := bind_s h
    obtain ⟨hyZ3a, hyZ3b⟩ := geti_s hyZ3
    obtain ⟨cZ4, h⟩ | ⟨cZ4, h⟩ := cond_s h
    · cases h
      exact ZL (ZA cZ2 (ZA hyZ3a (ZA hyZ3b cZ4))) V188.eq_1
    · cases h
      exact ZL (ZA cZ2 (ZA hyZ3a (ZA hyZ3b cZ4))) (ZA S_spec_l2FindL1.eq_1 SX_spec_l2FindL1.eq_1)
  · cases h
    exact ZL cZ2 (ZA S_spec_l2FindL1.eq_1 SX_spec_l2FindL1.eq_1)
theorem w_spec_l2Find (listZ0 : List ByteArray) (nameZ0 : ByteArray) {r : Int} (h : M_spec_l2Find listZ0 nameZ0 = some r) : Ok Tryz.prog 188 [.lst .o 1 (listZ0.map AV.z), .z nameZ0] ((fun r => .i r) r) := by
  refine ok_of_body hmix m188 rfl ?_
  unfold M_spec_l2Find at h
  simp only [ZC, A188, V188, body_eq]
  obtain ⟨oZ5, hoZ5, h⟩ := bind_s h
  try refine ZF trivial ?_
  refine join_rule (o := oZ5) (blk_rule sideR (loop_rule (w_spec_l2FindL1 listZ0 nameZ0) hoZ5 ?_)) (fun vZ6 hv => ?_) (fun xZ7 hv e τ hne hq => ?_)
  · exact ZK (ZA S_spec_l2FindL1.eq_1 SX_spec_l2FindL1.eq_1)
  · subst hv
    simp only [] at h
    simp only [ZC, SX_spec_l2FindL1, A188R2]
    cases h
    exact ZL trivial V188.eq_1
  · subst hv
    simp only [] at h
    obtain ⟨rfl, qZ8⟩ := hq
    cases h
    exact qZ8
theorem w_spec_l2Fiber (fZ0 : TFiber) (nodesZ0 : Int) {r : Bool} (h : M_spec_l2Fiber fZ0 nodesZ0 = some r) : Ok Tryz.prog 189 [.agg [.i fZ0.A, .i fZ0.B, .i fZ0.Length, .i fZ0.Risk], .i nodesZ0] ((fun r => .b r) r) := by
  refine ok_of_body hmix m189 rfl ?_
  unfold M_spec_l2Fiber at h
  simp only [ZC, A189, V189, body_eq]
  obtain ⟨rZ1, hrZ1, h⟩ := bind_s h
  refine ZF trivial ?_
  refine ZS trivial (w_spec_l1In _ _ _ hrZ1) ?_
  refine ZG ?_
  obtain ⟨cZ2, h⟩ | ⟨cZ2, h⟩ := cond_s h
  · obtain ⟨rZ3, hrZ3, h⟩ := bind_s h
    refine ZF cZ2 ?_
    refine ZS cZ2 (w_spec_l1In _ _ _ hrZ3) ?_
    refine ZG ?_
    obtain ⟨cZ4, h⟩ | ⟨cZ4, h⟩ := cond_s h
    · obtain ⟨rZ5, hrZ5, h⟩ := bind_s h
      refine ZF (ZA cZ2 cZ4) ?_
      refine ZS (ZA cZ2 cZ4) (w_spec_l1In _ _ _ hrZ5) ?_
      refine ZG ?_
      obtain ⟨cZ6, h⟩ | ⟨cZ6, h⟩ := cond_s h
      · obtain ⟨rZ7, hrZ7, h⟩ := bind_s h
        refine ZF (ZA cZ2 (ZA cZ4 cZ6)) ?_
        refine ZS (ZA cZ2 (ZA cZ4 cZ6)) (w_spec_l1In _ _ _ hrZ7) ?_
        refine ZG ?_
        cases h
        exact ZL (ZA cZ2 (ZA cZ4 cZ6)) V189.eq_1
      · cases h
        exact ZL (ZA cZ2 (ZA cZ4 cZ6)) V189.eq_1
    · cases h
      exact ZL (ZA cZ2 cZ4) V189.eq_1
  · cases h
    exact ZL cZ2 V189.eq_1
theorem w_spec_l2Before (fZ0 : TFiber) (gZ0 : TFiber) {r : Int} (h : M_spec_l2Before fZ0 gZ0 = some r) : Ok Tryz.prog 190 [.agg [.i fZ0.A, .i fZ0.B, .i fZ0.Length, .i fZ0.Risk], .agg [.i gZ0.A, .i gZ0.B, .i gZ0.Length, .i gZ0.Risk]] ((fun r => .i r) r) := by
  refine ok_of_body hmix m190 rfl ?_
  unfold M_spec_l2Before at h
  simp only [ZC, A190, V190, body_eq]
  obtain ⟨cZ1, h⟩ | ⟨cZ1, h⟩ := cond_s h
  · cases h
    exact ZL cZ1 V190.eq_1
  · obtain ⟨cZ2, h⟩ | ⟨cZ2, h⟩ := cond_s h
    · cases h
      exact ZL (ZA cZ1 cZ2) V190.eq_1
    · obtain ⟨cZ3, h⟩ | ⟨cZ3, h⟩ := cond_s h
      · cases h
        exact ZL (ZA cZ1 (ZA cZ2 cZ3)) V190.eq_1
      · cases h
        exact ZL (ZA cZ1 (ZA cZ2 cZ3)) V190.eq_1
def S_spec_l2GoodL1 (nZ0 : TNetwork) (v : Int) : St := ⟨[(1, .pt 1 0 0), (3, .i v)], [(1, .var (.agg [.lst .o 1 (nZ0.Nodes.map AV.z), .lst .o 4 (nZ0.Fibers.map (e_TFiber .o))]))]⟩
def SX_spec_l2GoodL1 (nZ0 : TNetwork) (v : Unit) : St := ⟨[(1, .pt 1 0 0)], [(1, .var (.agg [.lst .o 1 (nZ0.Nodes.map AV.z), .lst .o 4 (nZ0.Fibers.map (e_TFiber .o))]))]⟩
theorem w_spec_l2GoodL1 (nZ0 : TNetwork) (sZ5 : Int) (o : Int ⊕ (Unit ⊕ Bool)) (h : M_spec_l2GoodL1 nZ0 sZ5 = some o) : AWP (OkS Tryz.prog) A138L3 (qL [1, 3] [1] (S_spec_l2GoodL1 nZ0) (qS (qX 0 [1] [1] (SX_spec_l2GoodL1 nZ0)) (qR V138 (fun r => .b r))) o) (S_spec_l2GoodL1 nZ0 sZ5) := by
  unfold M_spec_l2GoodL1 at h
  simp only [ZC, S_spec_l2GoodL1, A138L3]
  obtain ⟨cZ6, h⟩ | ⟨cZ6, h⟩ := cond_s h
  · obtain ⟨oZ11, hoZ11, h⟩ := bind_s h
    try refine ZF cZ6 ?_
    refine join_rule0 (sh := (fun v => ⟨[(1, .pt 1 0 0), (3, .i sZ5), (41, .b v)], [(1, .var (.agg [.lst .o 1 (nZ0.Nodes.map AV.z), .lst .o 4 (nZ0.Fibers.map (e_TFiber .o))]))]⟩)) (s := oZ11) ?_ ?_
    · replace h := hoZ11
      obtain ⟨yZ7, hyZ7, h⟩ := bind_s h
      obtain ⟨hyZ7a, hyZ7b⟩ := geti_s hyZ7
      obtain ⟨rZ8, hrZ8, h⟩ := bind_s h
      refine ZF (ZA cZ6 (ZA hyZ7a hyZ7b)) ?_
      refine ZS (ZA cZ6 (ZA hyZ7a hyZ7b)) (w_spec_l2Name _ hrZ8) ?_
      refine ZG ?_
      obtain ⟨cZ9, h⟩ | ⟨cZ9, h⟩ := cond_s h
      · cases h
        exact ZL (ZA cZ6 (ZA hyZ7a (ZA hyZ7b cZ9))) trivial
      · obtain ⟨rZ10, hrZ10, h⟩ := bind_s h
        refine ZF (ZA cZ6 (ZA hyZ7a (ZA hyZ7b cZ9))) ?_
        refine ZS (ZA cZ6 (ZA hyZ7a (ZA hyZ7b cZ9))) (w_spec_l2Find _ _ hrZ10) ?_
        refine ZG ?_
        cases h
        exact ZL (ZA cZ6 (ZA hyZ7a (ZA hyZ7b cZ9))) trivial
    · simp only [ZC, A138R2]
      obtain ⟨cZ12, h⟩ | ⟨cZ12, h⟩ := cond_s h
      · cases h
        exact ZL (ZA cZ6 cZ12) V138.eq_1
      · cases h
        exact ZL (ZA cZ6 cZ12) (ZA S_spec_l2GoodL1.eq_1 SX_spec_l2GoodL1.eq_1)
  · cases h
    exact ZL cZ6 (ZA S_spec_l2GoodL1.eq_1 SX_spec_l2GoodL1.eq_1)
def S_spec_l2GoodL2 (nZ0 : TNetwork) (v : Int) : St := ⟨[(1, .pt 1 0 0), (4, .i v)], [(1, .var (.agg [.lst .o 1 (nZ0.Nodes.map AV.z), .lst .o 4 (nZ0.Fibers.map (e_TFiber .o))]))]⟩
def SX_spec_l2GoodL2 (v : Unit) : St := ⟨[], []⟩
theorem w_spec_l2GoodL2 (nZ0 : TNetwork) (sZ16 : Int) (o : Int ⊕ (Unit ⊕ Bool)) (h : M_spec_l2GoodL2 nZ0 sZ16 = some o) : AWP (OkS Tryz.prog) A138L6 (qL [1, 4] [1] (S_spec_l2GoodL2 nZ0) (qS (qX 2 [] [] (SX_spec_l2GoodL2)) (qR V138 (fun r => .b r))) o) (S_spec_l2GoodL2 nZ0 sZ16) := by
  unfold M_spec_l2GoodL2 at h
  simp only [ZC, S_spec_l2GoodL2, A138L6]
  obtain ⟨cZ17, h⟩ | ⟨cZ17, h⟩ := cond_s h
  · obtain ⟨oZ24, hoZ24, h⟩ := bind_s h
    try refine ZF cZ17 ?_
    refine join_rule0 (sh := (fun v => ⟨[(1, .pt 1 0 0), (4, .i sZ16), (77, .b v)], [(1, .var (.agg [.lst .o 1 (nZ0.Nodes.map AV.z), .lst .o 4 (nZ0.Fibers.map (e_TFiber .o))]))]⟩)) (s := oZ24) ?_ ?_
    · replace h := hoZ24
      obtain ⟨yZ18, hyZ18, h⟩ := bind_s h
      obtain ⟨hyZ18a, hyZ18b⟩ := geti_s hyZ18
      obtain ⟨rZ19, hrZ19, h⟩ := bind_s h
      refine ZF (ZA cZ17 (ZA hyZ18a hyZ18b)) ?_
      refine ZS (ZA cZ17 (ZA hyZ18a hyZ18b)) (w_spec_l2Fiber _ _ hrZ19) ?_
      refine ZG ?_
      obtain ⟨cZ20, h⟩ | ⟨cZ20, h⟩ := cond_s h
      · cases h
        exact ZL (ZA cZ17 (ZA hyZ18a (ZA hyZ18b cZ20))) trivial
      · obtain ⟨cZ21, h⟩ | ⟨cZ21, h⟩ := cond_s h
        · obtain ⟨yZ22, hyZ22, h⟩ := bind_s h
          obtain ⟨hyZ22a, hyZ22b⟩ := geti_s hyZ22
          obtain ⟨rZ23, hrZ23, h⟩ := bind_s h
          refine ZF (ZA cZ17 (ZA hyZ18a (ZA hyZ18b (ZA cZ20 (ZA cZ21 (ZA hyZ22a hyZ22b)))))) ?_
          refine ZS (ZA cZ17 (ZA hyZ18a (ZA hyZ18b (ZA cZ20 (ZA cZ21 (ZA hyZ22a hyZ22b)))))) (w_spec_l2Before _ _ hrZ23) ?_
          refine ZG ?_
          cases h
          exact ZL (ZA cZ17 (ZA hyZ18a (ZA hyZ18b (ZA cZ20 (ZA cZ21 (ZA hyZ22a hyZ22b)))))) trivial
        · cases h
          exact ZL (ZA cZ17 (ZA hyZ18a (ZA hyZ18b (ZA cZ20 cZ21)))) trivial
    · simp only [ZC, A138R5]
      obtain ⟨cZ25, h⟩ | ⟨cZ25, h⟩ := cond_s h
      · cases h
        exact ZL (ZA cZ17 cZ25) V138.eq_1
      · cases h
        exact ZL (ZA cZ17 cZ25) (ZA S_spec_l2GoodL2.eq_1 SX_spec_l2GoodL2.eq_1)
  · cases h
    exact ZL cZ17 (ZA S_spec_l2GoodL2.eq_1 SX_spec_l2GoodL2.eq_1)
theorem w_spec_l2Good (nZ0 : TNetwork) {r : Bool} (h : M_spec_l2Good nZ0 = some r) : Ok Tryz.prog 138 [.agg [.lst .o 1 (nZ0.Nodes.map AV.z), .lst .o 4 (nZ0.Fibers.map (e_TFiber .o))]] ((fun r => .b r) r) := by
  refine ok_of_body hmix m138 rfl ?_
  unfold M_spec_l2Good at h
  simp only [ZC, A138, V138, body_eq]
  obtain ⟨oZ3, hoZ3, h⟩ := bind_s h
  try refine ZF trivial ?_
  refine join_rule0 (sh := (fun v => ⟨[(1, .pt 1 0 0), (15, .b v)], [(1, .var (.agg [.lst .o 1 (nZ0.Nodes.map AV.z), .lst .o 4 (nZ0.Fibers.map (e_TFiber .o))]))]⟩)) (s := oZ3) ?_ ?_
  · replace h := hoZ3
    obtain ⟨rZ1, hrZ1, h⟩ := bind_s h
    refine ZF trivial ?_
    refine ZS trivial (w_spec_l1In _ _ _ hrZ1) ?_
    refine ZG ?_
    obtain ⟨cZ2, h⟩ | ⟨cZ2, h⟩ := cond_s h
    · cases h
      exact ZL cZ2 trivial
    · cases h
      exact ZL cZ2 trivial
  · simp only [ZC, A138R1]
    obtain ⟨cZ4, h⟩ | ⟨cZ4, h⟩ := cond_s h
    · cases h
      exact ZL cZ4 V138.eq_1
    · obtain ⟨oZ13, hoZ13, h⟩ := bind_s h
      try refine ZF cZ4 ?_
      refine join_rule (o := oZ13) (blk_rule sideR (loop_rule (w_spec_l2GoodL1 nZ0) hoZ13 ?_)) (fun vZ14 hv => ?_) (fun xZ15 hv e τ hne hq => ?_)
      · exact ZK (ZA S_spec_l2GoodL1.eq_1 SX_spec_l2GoodL1.eq_1)
      · subst hv
        simp only [] at h
        simp only [ZC, SX_spec_l2GoodL1, A138R4]
        obtain ⟨oZ26, hoZ26, h⟩ := bind_s h
        try refine ZF cZ4 ?_
        refine join_rule (o := oZ26) (blk_rule sideR (loop_rule (w_spec_l2GoodL2 nZ0) hoZ26 ?_)) (fun vZ27 hv => ?_) (fun xZ28 hv e τ hne hq => ?_)
        · exact ZK (ZA S_spec_l2GoodL2.eq_1 SX_spec_l2GoodL2.eq_1)
        · subst hv
          simp only [] at h
          simp only [ZC, SX_spec_l2GoodL2, A138R7]
          cases h
          exact ZL cZ4 V138.eq_1
        · subst hv
          simp only [] at h
          obtain ⟨rfl, qZ29⟩ := hq
          cases h
          exact qZ29
      · subst hv
        simp only [] at h
        obtain ⟨rfl, qZ30⟩ := hq
        cases h
        exact qZ30
theorem w_spec_l2Other (nZ0 : TNetwork) (fiberZ0 : Int) (nodeZ0 : Int) {r : Int} (h : M_spec_l2Other nZ0 fiberZ0 nodeZ0 = some r) : Ok Tryz.prog 246 [.agg [.lst .o 1 (nZ0.Nodes.map AV.z), .lst .o 4 (nZ0.Fibers.map (e_TFiber .o))], .i fiberZ0, .i nodeZ0] ((fun r => .i r) r) := by
  refine ok_of_body hmix m246 rfl ?_
  unfold M_spec_l2Other at h
  simp only [ZC, A246, V246, body_eq]
  obtain ⟨yZ1, hyZ1, h⟩ := bind_s h
  obtain ⟨hyZ1a, hyZ1b⟩ := geti_s hyZ1
  obtain ⟨cZ2, h⟩ | ⟨cZ2, h⟩ := cond_s h
  · cases h
    exact ZL (ZA hyZ1a (ZA hyZ1b cZ2)) V246.eq_1
  · obtain ⟨cZ3, h⟩ | ⟨cZ3, h⟩ := cond_s h
    · cases h
      exact ZL (ZA hyZ1a (ZA hyZ1b (ZA cZ2 cZ3))) V246.eq_1
    · cases h
      exact ZL (ZA hyZ1a (ZA hyZ1b (ZA cZ2 cZ3))) V246.eq_1
def S_spec_l1HasL1 (lZ0 : List Int) (nZ0 : Int) (v : Int) : St := ⟨[(0, .lst .o 1 (lZ0.map AV.i)), (1, .i nZ0), (5, .i v)], []⟩
def SX_spec_l1HasL1 (v : Unit) : St := ⟨[], []⟩
theorem w_spec_l1HasL1 (lZ0 : List Int) (nZ0 : Int) (sZ1 : Int) (o : Int ⊕ (Unit ⊕ Bool)) (h : M_spec_l1HasL1 lZ0 nZ0 sZ1 = some o) : AWP (OkS Tryz.prog) A144L1 (qL [0, 1, 5] [] (S_spec_l1HasL1 lZ0 nZ0) (qS (qX 0 [] [] (SX_spec_l1HasL1)) (qR V144 (fun r => .b r))) o) (S_spec_l1HasL1 lZ0 nZ0 sZ1) := by
  unfold M_spec_l1HasL1 at h
  simp only [ZC, S_spec_l1HasL1, A144L1]
  obtain ⟨cZ2, h⟩ | ⟨cZ2, h⟩ := cond_s h
  · obtain ⟨yZ3, hyZ3, h⟩ := bind_s h
    obtain ⟨hyZ3a, hyZ3b⟩ := geti_s hyZ3
    obtain ⟨cZ4, h⟩ | ⟨cZ4, h⟩ := cond_s h
    · cases h
      exact ZL (ZA cZ2 (ZA hyZ3a (ZA hyZ3b cZ4))) V144.eq_1
    · cases h
      exact ZL (ZA cZ2 (ZA hyZ3a (ZA hyZ3b cZ4))) (ZA S_spec_l1HasL1.eq_1 SX_spec_l1HasL1.eq_1)
  · cases h
    exact ZL cZ2 (ZA S_spec_l1HasL1.eq_1 SX_spec_l1HasL1.eq_1)
theorem w_spec_l1Has (lZ0 : List Int) (nZ0 : Int) {r : Bool} (h : M_spec_l1Has lZ0 nZ0 = some r) : Ok Tryz.prog 144 [.lst .o 1 (lZ0.map AV.i), .i nZ0] ((fun r => .b r) r) := by
  refine ok_of_body hmix m144 rfl ?_
  unfold M_spec_l1Has at h
  simp only [ZC, A144, V144, body_eq]
  obtain ⟨oZ5, hoZ5, h⟩ := bind_s h
  try refine ZF trivial ?_
  refine join_rule (o := oZ5) (blk_rule sideR (loop_rule (w_spec_l1HasL1 lZ0 nZ0) hoZ5 ?_)) (fun vZ6 hv => ?_) (fun xZ7 hv e τ hne hq => ?_)
  · exact ZK (ZA S_spec_l1HasL1.eq_1 SX_spec_l1HasL1.eq_1)
  · subst hv
    simp only [] at h
    simp only [ZC, SX_spec_l1HasL1, A144R2]
    cases h
    exact ZL trivial V144.eq_1
  · subst hv
    simp only [] at h
    obtain ⟨rfl, qZ8⟩ := hq
    cases h
    exact qZ8
def S_spec_l4WalkL1 (nZ0 : TNetwork) (rZ0 : TRoute) (v : Int × List Int) : St := ⟨[(2, .pt 2 0 0), (3, .pt 3 0 0), (6, .sl 6 0 v.2.length), (7, .i v.1)], [(2, .var (.agg [.lst .o 1 (nZ0.Nodes.map AV.z), .lst .o 4 (nZ0.Fibers.map (e_TFiber .o))])), (3, .var (.agg [.i rZ0.Start, .lst .o 1 (rZ0.Fibers.map AV.i)])), (6, .arr 1 (v.2.map AV.i))]⟩
def SX_spec_l4WalkL1 (v : List Int) : St := ⟨[(6, .sl 6 0 v.length)], [(6, .arr 1 (v.map AV.i))]⟩
theorem w_spec_l4WalkL1 (nZ0 : TNetwork) (rZ0 : TRoute) (sZ8 : Int × List Int) (o : (Int × List Int) ⊕ ((List Int) ⊕ (List Int × Bool))) (h : M_spec_l4WalkL1 nZ0 rZ0 sZ8 = some o) : AWP (OkS Tryz.prog) A220L3 (qL [2, 3, 6, 7] [2, 3, 6] (S_spec_l4WalkL1 nZ0 rZ0) (qS (qX 0 [6] [6] (SX_spec_l4WalkL1)) (qR V220 (fun r => .tup [.lst .u 1 (r.1.map AV.i), .b r.2]))) o) (S_spec_l4WalkL1 nZ0 rZ0 sZ8) := by
  unfold M_spec_l4WalkL1 at h
  simp only [ZC, S_spec_l4WalkL1, A220L3]
  obtain ⟨cZ9, h⟩ | ⟨cZ9, h⟩ := cond_s h
  · obtain ⟨yZ10, hyZ10, h⟩ := bind_s h
    obtain ⟨hyZ10a, hyZ10b⟩ := geti_s hyZ10
    obtain ⟨rZ11, hrZ11, h⟩ := bind_s h
    refine ZF (ZA cZ9 (ZA hyZ10a hyZ10b)) ?_
    refine ZS (ZA cZ9 (ZA hyZ10a hyZ10b)) (w_spec_l1In _ _ _ hrZ11) ?_
    refine ZG ?_
    obtain ⟨cZ12, h⟩ | ⟨cZ12, h⟩ := cond_s h
    · cases h
      exact ZL (ZA cZ9 (ZA hyZ10a (ZA hyZ10b cZ12))) V220.eq_1
    · obtain ⟨kZ13, hkZ13, h⟩ := bind_s h
      obtain ⟨hkZ13a, hkZ13b⟩ := grd_s hkZ13
      obtain ⟨yZ14, hyZ14, h⟩ := bind_s h
      obtain ⟨rZ15, hrZ15, h⟩ := bind_s h
      refine ZF (ZA cZ9 (ZA hyZ10a (ZA hyZ10b (ZA cZ12 (ZA hkZ13a (ZA hkZ13b hyZ14)))))) ?_
      refine ZS (ZA cZ9 (ZA hyZ10a (ZA hyZ10b (ZA cZ12 (ZA hkZ13a (ZA hkZ13b hyZ14)))))) (w_spec_l2Other _ _ _ hrZ15) ?_
      refine ZG ?_
      obtain ⟨oZ18, hoZ18, h⟩ := bind_s h
      try refine ZF (ZA cZ9 (ZA hyZ10a (ZA hyZ10b (ZA cZ12 (ZA hkZ13a (ZA hkZ13b hyZ14)))))) ?_
      refine join_rule0 (sh := (fun v => ⟨[(2, .pt 2 0 0), (3, .pt 3 0 0), (6, .sl 6 0 sZ8.2.length), (7, .i sZ8.1), (8, .i rZ15), (65, .b v)], [(2, .var (.agg [.lst .o 1 (nZ0.Nodes.map AV.z), .lst .o 4 (nZ0.Fibers.map (e_TFiber .o))])), (3, .var (.agg [.i rZ0.Start, .lst .o 1 (rZ0.Fibers.map AV.i)])), (6, .arr 1 (sZ8.2.map AV.i))]⟩)) (s := oZ18) ?_ ?_
      · replace h := hoZ18
        obtain ⟨cZ16, h⟩ | ⟨cZ16, h⟩ := cond_s h
        · cases h
          exact ZL (ZA cZ9 (ZA hyZ10a (ZA hyZ10b (ZA cZ12 (ZA hkZ13a (ZA hkZ13b (ZA hyZ14 cZ16))))))) trivial
        · obtain ⟨rZ17, hrZ17, h⟩ := bind_s h
          refine ZF (ZA cZ9 (ZA hyZ10a (ZA hyZ10b (ZA cZ12 (ZA hkZ13a (ZA hkZ13b (ZA hyZ14 cZ16))))))) ?_
          refine ZS (ZA cZ9 (ZA hyZ10a (ZA hyZ10b (ZA cZ12 (ZA hkZ13a (ZA hkZ13b (ZA hyZ14 cZ16))))))) (w_spec_l1Has _ _ hrZ17) ?_
          refine ZG ?_
          cases h
          exact ZL (ZA cZ9 (ZA hyZ10a (ZA hyZ10b (ZA cZ12 (ZA hkZ13a (ZA hkZ13b (ZA hyZ14 cZ16))))))) trivial
      · simp only [ZC, A220R2]
        obtain ⟨cZ19, h⟩ | ⟨cZ19, h⟩ := cond_s h
        · cases h
          exact ZL (ZA cZ9 (ZA hyZ10a (ZA hyZ10b (ZA cZ12 (ZA hkZ13a (ZA hkZ13b (ZA hyZ14 cZ19))))))) V220.eq_1
        · obtain ⟨lZ20, hlZ20, h⟩ := bnd_s h
          have eZ21 : Row.arr 1 [(.i rZ15 : AV)] = Row.arr 1 (lZ20.map AV.i) := by rw [← hlZ20]; rfl
          have jjZ22 : lZ20.length = 1 := by rw [← hlZ20]; rfl
          obtain ⟨uZ23, huZ23, h⟩ := bind_s h
          have huZ23g := grd_s huZ23
          obtain ⟨lZ24, hlZ24, h⟩ := bnd_s h
          have eZ25 : sZ8.2.map AV.i ++ lZ20.map AV.i = lZ24.map AV.i := by rw [← hlZ24, List.map_append]
          have eZ26 : sZ8.2.length + 1 = lZ24.length := by simp [← hlZ20, ← hlZ24] <;> omega
          rw [eZ26] at huZ23g
          cases h
          exact ZL (ZA cZ9 (ZA hyZ10a (ZA hyZ10b (ZA cZ12 (ZA hkZ13a (ZA hkZ13b (ZA hyZ14 (ZA cZ19 (ZA eZ21 (ZA jjZ22 (ZA huZ23g (ZA eZ25 eZ26)))))))))))) (ZA S_spec_l4WalkL1.eq_1 (ZA SX_spec_l4WalkL1.eq_1 (ZA hlZ20.symm (ZA hlZ24.symm jjZ22))))
  · cases h
    exact ZL cZ9 (ZA S_spec_l4WalkL1.eq_1 SX_spec_l4WalkL1.eq_1)
theorem w_spec_l4Walk (nZ0 : TNetwork) (rZ0 : TRoute) {r : List Int × Bool} (h : M_spec_l4Walk nZ0 rZ0 = some r) : Ok Tryz.prog 220 [.agg [.lst .o 1 (nZ0.Nodes.map AV.z), .lst .o 4 (nZ0.Fibers.map (e_TFiber .o))], .agg [.i rZ0.Start, .lst .o 1 (rZ0.Fibers.map AV.i)]] ((fun r => .tup [.lst .u 1 (r.1.map AV.i), .b r.2]) r) := by
  refine ok_of_body hmix m220 rfl ?_
  unfold M_spec_l4Walk at h
  simp only [ZC, A220, V220, body_eq]
  obtain ⟨lZ1, hlZ1, h⟩ := bnd_s h
  have eZ2 : Row.arr 1 [(.i rZ0.Start : AV)] = Row.arr 1 (lZ1.map AV.i) := by rw [← hlZ1]; rfl
  have jjZ3 : lZ1.length = 1 := by rw [← hlZ1]; rfl
  obtain ⟨oZ6, hoZ6, h⟩ := bind_s h
  try refine ZF (ZA eZ2 jjZ3) ?_
  refine join_rule0 (sh := (fun v => ⟨[(2, .pt 2 0 0), (3, .pt 3 0 0), (6, .sl 6 0 lZ1.length), (25, .b v)], [(2, .var (.agg [.lst .o 1 (nZ0.Nodes.map AV.z), .lst .o 4 (nZ0.Fibers.map (e_TFiber .o))])), (3, .var (.agg [.i rZ0.Start, .lst .o 1 (rZ0.Fibers.map AV.i)])), (6, .arr 1 (lZ1.map AV.i))]⟩)) (s := oZ6) ?_ ?_
  · replace h := hoZ6
    obtain ⟨rZ4, hrZ4, h⟩ := bind_s h
    refine ZF (ZA eZ2 jjZ3) ?_
    refine ZS (ZA eZ2 jjZ3) (w_spec_l1In _ _ _ hrZ4) ?_
    refine ZG ?_
    obtain ⟨cZ5, h⟩ | ⟨cZ5, h⟩ := cond_s h
    · cases h
      exact ZL (ZA eZ2 (ZA jjZ3 cZ5)) (ZA hlZ1.symm jjZ3)
    · cases h
      exact ZL (ZA eZ2 (ZA jjZ3 cZ5)) (ZA hlZ1.symm jjZ3)
  · simp only [ZC, A220R1]
    obtain ⟨cZ7, h⟩ | ⟨cZ7, h⟩ := cond_s h
    · cases h
      exact ZL (ZA eZ2 (ZA jjZ3 cZ7)) (ZA V220.eq_1 jjZ3)
    · obtain ⟨oZ27, hoZ27, h⟩ := bind_s h
      try refine ZF (ZA eZ2 (ZA jjZ3 cZ7)) ?_
      refine join_rule (o := oZ27) (blk_rule sideR (loop_rule (w_spec_l4WalkL1 nZ0 rZ0) hoZ27 ?_)) (fun vZ28 hv => ?_) (fun xZ29 hv e τ hne hq => ?_)
      · exact ZK (ZA S_spec_l4WalkL1.eq_1 (ZA SX_spec_l4WalkL1.eq_1 jjZ3))
      · subst hv
        simp only [] at h
        simp only [ZC, SX_spec_l4WalkL1, A220R4]
        cases h
        exact ZL (ZA eZ2 (ZA jjZ3 cZ7)) (ZA V220.eq_1 jjZ3)
      · subst hv
        simp only [] at h
        obtain ⟨rfl, qZ30⟩ := hq
        cases h
        exact qZ30
theorem w_spec_l4Good (nZ0 : TNetwork) (rZ0 : TRoute) {r : Bool} (h : M_spec_l4Good nZ0 rZ0 = some r) : Ok Tryz.prog 191 [.agg [.lst .o 1 (nZ0.Nodes.map AV.z), .lst .o 4 (nZ0.Fibers.map (e_TFiber .o))], .agg [.i rZ0.Start, .lst .o 1 (rZ0.Fibers.map AV.i)]] ((fun r => .b r) r) := by
  refine ok_of_body hmix m191 rfl ?_
  unfold M_spec_l4Good at h
  simp only [ZC, A191, V191, body_eq]
  obtain ⟨rZ1, hrZ1, h⟩ := bind_s h
  refine ZF trivial ?_
  refine ZS trivial (w_spec_l2Good _ hrZ1) ?_
  refine ZG ?_
  obtain ⟨cZ2, h⟩ | ⟨cZ2, h⟩ := cond_s h
  · cases h
    exact ZL cZ2 V191.eq_1
  · obtain ⟨rZ3, hrZ3, h⟩ := bind_s h
    refine ZF cZ2 ?_
    refine ZU cZ2 (w_spec_l4Walk _ _ hrZ3) ?_
    refine ZG ?_
    cases h
    exact ZL cZ2 V191.eq_1
theorem w_spec_l8Good (bZ0 : TBlock) {r : Bool} (h : M_spec_l8Good bZ0 = some r) : Ok Tryz.prog 192 [.agg [.i bZ0.First, .i bZ0.Count]] ((fun r => .b r) r) := by
  refine ok_of_body hmix m192 rfl ?_
  unfold M_spec_l8Good at h
  simp only [ZC, A192, V192, body_eq]
  obtain ⟨rZ1, hrZ1, h⟩ := bind_s h
  refine ZF trivial ?_
  refine ZS trivial (w_spec_l1In _ _ _ hrZ1) ?_
  refine ZG ?_
  obtain ⟨cZ2, h⟩ | ⟨cZ2, h⟩ := cond_s h
  · obtain ⟨rZ3, hrZ3, h⟩ := bind_s h
    refine ZF cZ2 ?_
    refine ZS cZ2 (w_spec_l1In _ _ _ hrZ3) ?_
    refine ZG ?_
    cases h
    exact ZL cZ2 V192.eq_1
  · cases h
    exact ZL cZ2 V192.eq_1
theorem w_spec_l9Light (nZ0 : TNetwork) (xZ0 : TLight) {r : Bool} (h : M_spec_l9Light nZ0 xZ0 = some r) : Ok Tryz.prog 139 [.agg [.lst .o 1 (nZ0.Nodes.map AV.z), .lst .o 4 (nZ0.Fibers.map (e_TFiber .o))], .agg [.i xZ0.Id, .i xZ0.Route.Start, .lst .o 1 (xZ0.Route.Fibers.map AV.i), .i xZ0.Block.First, .i xZ0.Block.Count]] ((fun r => .b r) r) := by
  refine ok_of_body hmix m139 rfl ?_
  unfold M_spec_l9Light at h
  simp only [ZC, A139, V139, body_eq]
  obtain ⟨rZ1, hrZ1, h⟩ := bind_s h
  refine ZF trivial ?_
  refine ZS trivial (w_spec_l1In _ _ _ hrZ1) ?_
  refine ZG ?_
  obtain ⟨cZ2, h⟩ | ⟨cZ2, h⟩ := cond_s h
  · obtain ⟨rZ3, hrZ3, h⟩ := bind_s h
    refine ZF cZ2 ?_
    refine ZS cZ2 (w_spec_l4Good _ _ hrZ3) ?_
    refine ZG ?_
    obtain ⟨cZ4, h⟩ | ⟨cZ4, h⟩ := cond_s h
    · obtain ⟨rZ5, hrZ5, h⟩ := bind_s h
      refine ZF (ZA cZ2 cZ4) ?_
      refine ZS (ZA cZ2 cZ4) (w_spec_l8Good _ hrZ5) ?_
      refine ZG ?_
      cases h
      exact ZL (ZA cZ2 cZ4) V139.eq_1
    · cases h
      exact ZL (ZA cZ2 cZ4) V139.eq_1
  · cases h
    exact ZL cZ2 V139.eq_1
def S_spec_l4UsesL1 (rZ0 : TRoute) (groupZ0 : List Int) (v : Int) : St := ⟨[(1, .lst .o 1 (groupZ0.map AV.i)), (2, .pt 2 0 0), (5, .i v)], [(2, .var (.agg [.i rZ0.Start, .lst .o 1 (rZ0.Fibers.map AV.i)]))]⟩
def SX_spec_l4UsesL1 (v : Unit) : St := ⟨[], []⟩
theorem w_spec_l4UsesL1 (rZ0 : TRoute) (groupZ0 : List Int) (sZ1 : Int) (o : Int ⊕ (Unit ⊕ Bool)) (h : M_spec_l4UsesL1 rZ0 groupZ0 sZ1 = some o) : AWP (OkS Tryz.prog) A125L1 (qL [1, 2, 5] [2] (S_spec_l4UsesL1 rZ0 groupZ0) (qS (qX 0 [] [] (SX_spec_l4UsesL1)) (qR V125 (fun r => .b r))) o) (S_spec_l4UsesL1 rZ0 groupZ0 sZ1) := by
  unfold M_spec_l4UsesL1 at h
  simp only [ZC, S_spec_l4UsesL1, A125L1]
  obtain ⟨cZ2, h⟩ | ⟨cZ2, h⟩ := cond_s h
  · obtain ⟨yZ3, hyZ3, h⟩ := bind_s h
    obtain ⟨hyZ3a, hyZ3b⟩ := geti_s hyZ3
    obtain ⟨rZ4, hrZ4, h⟩ := bind_s h
    refine ZF (ZA cZ2 (ZA hyZ3a hyZ3b)) ?_
    refine ZS (ZA cZ2 (ZA hyZ3a hyZ3b)) (w_spec_l1Has _ _ hrZ4) ?_
    refine ZG ?_
    obtain ⟨cZ5, h⟩ | ⟨cZ5, h⟩ := cond_s h
    · cases h
      exact ZL (ZA cZ2 (ZA hyZ3a (ZA hyZ3b cZ5))) V125.eq_1
    · cases h
      exact ZL (ZA cZ2 (ZA hyZ3a (ZA hyZ3b cZ5))) (ZA S_spec_l4UsesL1.eq_1 SX_spec_l4UsesL1.eq_1)
  · cases h
    exact ZL cZ2 (ZA S_spec_l4UsesL1.eq_1 SX_spec_l4UsesL1.eq_1)
theorem w_spec_l4Uses (rZ0 : TRoute) (groupZ0 : List Int) {r : Bool} (h : M_spec_l4Uses rZ0 groupZ0 = some r) : Ok Tryz.prog 125 [.agg [.i rZ0.Start, .lst .o 1 (rZ0.Fibers.map AV.i)], .lst .o 1 (groupZ0.map AV.i)] ((fun r => .b r) r) := by
  refine ok_of_body hmix m125 rfl ?_
  unfold M_spec_l4Uses at h
  simp only [ZC, A125, V125, body_eq]
  obtain ⟨oZ6, hoZ6, h⟩ := bind_s h
  try refine ZF trivial ?_
  refine join_rule (o := oZ6) (blk_rule sideR (loop_rule (w_spec_l4UsesL1 rZ0 groupZ0) hoZ6 ?_)) (fun vZ7 hv => ?_) (fun xZ8 hv e τ hne hq => ?_)
  · exact ZK (ZA S_spec_l4UsesL1.eq_1 SX_spec_l4UsesL1.eq_1)
  · subst hv
    simp only [] at h
    simp only [ZC, SX_spec_l4UsesL1, A125R2]
    cases h
    exact ZL trivial V125.eq_1
  · subst hv
    simp only [] at h
    obtain ⟨rfl, qZ9⟩ := hq
    cases h
    exact qZ9
theorem w_spec_l8Bits (bZ0 : TBlock) {r : Int} (h : M_spec_l8Bits bZ0 = some r) : Ok Tryz.prog 167 [.agg [.i bZ0.First, .i bZ0.Count]] ((fun r => .i r) r) := by
  refine ok_of_body hmix m167 rfl ?_
  unfold M_spec_l8Bits at h
  simp only [ZC, A167, V167, body_eq]
  obtain ⟨uZ1, huZ1, h⟩ := bind_s h
  have huZ1g := grd_s huZ1
  obtain ⟨uZ2, huZ2, h⟩ := bind_s h
  have huZ2g := grd_s huZ2
  cases h
  exact ZL (ZA huZ1g huZ2g) V167.eq_1
theorem w_spec_l9Collide (xZ0 : TLight) (yZ0 : TLight) {r : Bool} (h : M_spec_l9Collide xZ0 yZ0 = some r) : Ok Tryz.prog 140 [.agg [.i xZ0.Id, .i xZ0.Route.Start, .lst .o 1 (xZ0.Route.Fibers.map AV.i), .i xZ0.Block.First, .i xZ0.Block.Count], .agg [.i yZ0.Id, .i yZ0.Route.Start, .lst .o 1 (yZ0.Route.Fibers.map AV.i), .i yZ0.Block.First, .i yZ0.Block.Count]] ((fun r => .b r) r) := by
  refine ok_of_body hmix m140 rfl ?_
  unfold M_spec_l9Collide at h
  simp only [ZC, A140, V140, body_eq]
  obtain ⟨rZ1, hrZ1, h⟩ := bind_s h
  refine ZF trivial ?_
  refine ZS trivial (w_spec_l4Uses _ _ hrZ1) ?_
  refine ZG ?_
  obtain ⟨cZ2, h⟩ | ⟨cZ2, h⟩ := cond_s h
  · obtain ⟨rZ3, hrZ3, h⟩ := bind_s h
    refine ZF cZ2 ?_
    refine ZS cZ2 (w_spec_l8Bits _ hrZ3) ?_
    refine ZG ?_
    obtain ⟨rZ4, hrZ4, h⟩ := bind_s h
    refine ZF cZ2 ?_
    refine ZS cZ2 (w_spec_l8Bits _ hrZ4) ?_
    refine ZG ?_
    cases h
    exact ZL cZ2 V140.eq_1
  · cases h
    exact ZL cZ2 V140.eq_1
def S_spec_l9GoodL2 (pZ0 : TPlan) (sZ5 : Int) (v : Int) : St := ⟨[(1, .pt 1 0 0), (3, .i sZ5), (4, .i v)], [(1, .var (.agg [.lst .o 1 (pZ0.Network.Nodes.map AV.z), .lst .o 4 (pZ0.Network.Fibers.map (e_TFiber .o)), .lst .o 5 (pZ0.Lights.map (e_TLight .o))]))]⟩
def SX_spec_l9GoodL2 (pZ0 : TPlan) (sZ5 : Int) (v : Unit) : St := ⟨[(1, .pt 1 0 0), (3, .i sZ5)], [(1, .var (.agg [.lst .o 1 (pZ0.Network.Nodes.map AV.z), .lst .o 4 (pZ0.Network.Fibers.map (e_TFiber .o)), .lst .o 5 (pZ0.Lights.map (e_TLight .o))]))]⟩
theorem w_spec_l9GoodL2 (pZ0 : TPlan) (sZ5 : Int) (sZ14 : Int) (o : Int ⊕ (Unit ⊕ Bool)) (h : M_spec_l9GoodL2 pZ0 sZ5 sZ14 = some o) : AWP (OkS Tryz.prog) A74L3 (qL [1, 3, 4] [1] (S_spec_l9GoodL2 pZ0 sZ5) (qS (qX 2 [1, 3] [1] (SX_spec_l9GoodL2 pZ0 sZ5)) (qR V74 (fun r => .b r))) o) (S_spec_l9GoodL2 pZ0 sZ5 sZ14) := by
  unfold M_spec_l9GoodL2 at h
  simp only [ZC, S_spec_l9GoodL2, A74L3]
  obtain ⟨cZ15, h⟩ | ⟨cZ15, h⟩ := cond_s h
  · obtain ⟨yZ16, hyZ16, h⟩ := bind_s h
    obtain ⟨hyZ16a, hyZ16b⟩ := geti_s hyZ16
    obtain ⟨yZ17, hyZ17, h⟩ := bind_s h
    obtain ⟨hyZ17a, hyZ17b⟩ := geti_s hyZ17
    obtain ⟨rZ18, hrZ18, h⟩ := bind_s h
    refine ZF (ZA cZ15 (ZA hyZ16a (ZA hyZ16b (ZA hyZ17a hyZ17b)))) ?_
    refine ZS (ZA cZ15 (ZA hyZ16a (ZA hyZ16b (ZA hyZ17a hyZ17b)))) (w_spec_l9Collide _ _ hrZ18) ?_
    refine ZG ?_
    obtain ⟨cZ19, h⟩ | ⟨cZ19, h⟩ := cond_s h
    · cases h
      exact ZL (ZA cZ15 (ZA hyZ16a (ZA hyZ16b (ZA hyZ17a (ZA hyZ17b cZ19))))) V74.eq_1
    · cases h
      exact ZL (ZA cZ15 (ZA hyZ16a (ZA hyZ16b (ZA hyZ17a (ZA hyZ17b cZ19))))) (ZA S_spec_l9GoodL2.eq_1 SX_spec_l9GoodL2.eq_1)
  · cases h
    exact ZL cZ15 (ZA S_spec_l9GoodL2.eq_1 SX_spec_l9GoodL2.eq_1)
def S_spec_l9GoodL1 (pZ0 : TPlan) (v : Int) : St := ⟨[(1, .pt 1 0 0), (3, .i v)], [(1, .var (.agg [.lst .o 1 (pZ0.Network.Nodes.map AV.z), .lst .o 4 (pZ0.Network.Fibers.map (e_TFiber .o)), .lst .o 5 (pZ0.Lights.map (e_TLight .o))]))]⟩
def SX_spec_l9GoodL1 (v : Unit) : St := ⟨[], []⟩
theorem w_spec_l9GoodL1 (pZ0 : TPlan) (sZ5 : Int) (o : Int ⊕ (Unit ⊕ Bool)) (h : M_spec_l9GoodL1 pZ0 sZ5 = some o) : AWP (OkS Tryz.prog) A74L5 (qL [1, 3] [1] (S_spec_l9GoodL1 pZ0) (qS (qX 0 [] [] (SX_spec_l9GoodL1)) (qR V74 (fun r => .b r))) o) (S_spec_l9GoodL1 pZ0 sZ5) := by
  unfold M_spec_l9GoodL1 at h
  simp only [ZC, S_spec_l9GoodL1, A74L5]
  obtain ⟨cZ6, h⟩ | ⟨cZ6, h⟩ := cond_s h
  · obtain ⟨oZ25, hoZ25, h⟩ := bind_s h
    try refine ZF cZ6 ?_
    refine join_rule (sh := (fun v => ⟨[(1, .pt 1 0 0), (3, .i sZ5)], [(1, .var (.agg [.lst .o 1 (pZ0.Network.Nodes.map AV.z), .lst .o 4 (pZ0.Network.Fibers.map (e_TFiber .o)), .lst .o 5 (pZ0.Lights.map (e_TLight .o))]))]⟩)) (q := (qR V74 (fun r => .b r))) (o := oZ25) ?_ (fun vZ26 hv => ?_) (fun xZ27 hv e τ hne hq => ?_)
    · replace h := hoZ25
      obtain ⟨oZ12, hoZ12, h⟩ := bind_s h
      try refine ZF cZ6 ?_
      refine join_rule0 (sh := (fun v => ⟨[(1, .pt 1 0 0), (3, .i sZ5), (50, .b v)], [(1, .var (.agg [.lst .o 1 (pZ0.Network.Nodes.map AV.z), .lst .o 4 (pZ0.Network.Fibers.map (e_TFiber .o)), .lst .o 5 (pZ0.Lights.map (e_TLight .o))]))]⟩)) (s := oZ12) ?_ ?_
      · replace h := hoZ12
        obtain ⟨yZ7, hyZ7, h⟩ := bind_s h
        obtain ⟨hyZ7a, hyZ7b⟩ := geti_s hyZ7
        obtain ⟨rZ8, hrZ8, h⟩ := bind_s h
        refine ZF (ZA cZ6 (ZA hyZ7a hyZ7b)) ?_
        refine ZS (ZA cZ6 (ZA hyZ7a hyZ7b)) (w_spec_l9Light _ _ hrZ8) ?_
        refine ZG ?_
        obtain ⟨cZ9, h⟩ | ⟨cZ9, h⟩ := cond_s h
        · cases h
          exact ZL (ZA cZ6 (ZA hyZ7a (ZA hyZ7b cZ9))) trivial
        · obtain ⟨cZ10, h⟩ | ⟨cZ10, h⟩ := cond_s h
          · obtain ⟨yZ11, hyZ11, h⟩ := bind_s h
            obtain ⟨hyZ11a, hyZ11b⟩ := geti_s hyZ11
            cases h
            exact ZL (ZA cZ6 (ZA hyZ7a (ZA hyZ7b (ZA cZ9 (ZA cZ10 (ZA hyZ11a hyZ11b)))))) trivial
          · cases h
            exact ZL (ZA cZ6 (ZA hyZ7a (ZA hyZ7b (ZA cZ9 cZ10)))) trivial
      · simp only [ZC, A74R2]
        obtain ⟨cZ13, h⟩ | ⟨cZ13, h⟩ := cond_s h
        · cases h
          exact ZL (ZA cZ6 cZ13) V74.eq_1
        · obtain ⟨oZ20, hoZ20, h⟩ := bind_s h
          try refine ZF (ZA cZ6 cZ13) ?_
          first | refine tail_rule (o := oZ20) (blk_rule sideR (loop_rule (w_spec_l9GoodL2 pZ0 sZ5) hoZ20 ?_)) (fun vZ21 hv τ qZ23 => ?_) (fun xZ22 hv e τ hne hq => ?_) | refine tail_blk (o := oZ20) sideR (loop_rule (w_spec_l9GoodL2 pZ0 sZ5) hoZ20 ?_) (fun vZ21 hv τ qZ23 => ?_) (fun xZ22 hv e τ hne hq => ?_)
          · exact ZK (ZA S_spec_l9GoodL2.eq_1 SX_spec_l9GoodL2.eq_1)
          · subst hv
            simp only [] at h
            cases h
            try refine ZF trivial ?_
            refine ⟨rfl, Shp.sub qZ23 (by decide) (by decide) ?_⟩
            exact ZK SX_spec_l9GoodL2.eq_1
          · subst hv
            simp only [] at h
            obtain ⟨rfl, qZ24⟩ := hq
            cases h
            try refine ZF trivial ?_
            first | exact ⟨by simp, qZ24⟩ | exact ⟨by simp, rfl, qZ24⟩
    · subst hv
      simp only [] at h
      simp only [ZC, A74R4]
      cases h
      exact ZL cZ6 (ZA S_spec_l9GoodL1.eq_1 SX_spec_l9GoodL1.eq_1)
    · subst hv
      simp only [] at h
      obtain ⟨rfl, qZ28⟩ := hq
      cases h
      try refine ZF trivial ?_
      first | exact ⟨by simp, qZ28⟩ | exact ⟨by simp, rfl, qZ28⟩
  · cases h
    exact ZL cZ6 (ZA S_spec_l9GoodL1.eq_1 SX_spec_l9GoodL1.eq_1)
theorem w_spec_l9Good (pZ0 : TPlan) {r : Bool} (h : M_spec_l9Good pZ0 = some r) : Ok Tryz.prog 74 [.agg [.lst .o 1 (pZ0.Network.Nodes.map AV.z), .lst .o 4 (pZ0.Network.Fibers.map (e_TFiber .o)), .lst .o 5 (pZ0.Lights.map (e_TLight .o))]] ((fun r => .b r) r) := by
  refine ok_of_body hmix m74 rfl ?_
  unfold M_spec_l9Good at h
  simp only [ZC, A74, V74, body_eq]
  obtain ⟨oZ3, hoZ3, h⟩ := bind_s h
  try refine ZF trivial ?_
  refine join_rule0 (sh := (fun v => ⟨[(1, .pt 1 0 0), (14, .b v)], [(1, .var (.agg [.lst .o 1 (pZ0.Network.Nodes.map AV.z), .lst .o 4 (pZ0.Network.Fibers.map (e_TFiber .o)), .lst .o 5 (pZ0.Lights.map (e_TLight .o))]))]⟩)) (s := oZ3) ?_ ?_
  · replace h := hoZ3
    obtain ⟨rZ1, hrZ1, h⟩ := bind_s h
    refine ZF trivial ?_
    refine ZS trivial (w_spec_l2Good _ hrZ1) ?_
    refine ZG ?_
    obtain ⟨cZ2, h⟩ | ⟨cZ2, h⟩ := cond_s h
    · cases h
      exact ZL cZ2 trivial
    · cases h
      exact ZL cZ2 trivial
  · simp only [ZC, A74R1]
    obtain ⟨cZ4, h⟩ | ⟨cZ4, h⟩ := cond_s h
    · cases h
      exact ZL cZ4 V74.eq_1
    · obtain ⟨oZ29, hoZ29, h⟩ := bind_s h
      try refine ZF cZ4 ?_
      refine join_rule (o := oZ29) (blk_rule sideR (loop_rule (w_spec_l9GoodL1 pZ0) hoZ29 ?_)) (fun vZ30 hv => ?_) (fun xZ31 hv e τ hne hq => ?_)
      · exact ZK (ZA S_spec_l9GoodL1.eq_1 SX_spec_l9GoodL1.eq_1)
      · subst hv
        simp only [] at h
        simp only [ZC, SX_spec_l9GoodL1, A74R6]
        cases h
        exact ZL cZ4 V74.eq_1
      · subst hv
        simp only [] at h
        obtain ⟨rfl, qZ32⟩ := hq
        cases h
        exact qZ32
theorem w_spec_l2Own (nZ0 : TNetwork) {r : TNetwork} (h : M_spec_l2Own nZ0 = some r) : Ok Tryz.prog 89 [.agg [.lst .o 1 (nZ0.Nodes.map AV.z), .lst .o 4 (nZ0.Fibers.map (e_TFiber .o))]] ((fun r => .agg [.lst .u 1 (r.Nodes.map AV.z), .lst .u 4 (r.Fibers.map (e_TFiber .u))]) r) := by
  refine ok_of_body hmix m89 rfl ?_
  unfold M_spec_l2Own at h
  simp only [ZC, A89, V89, body_eq]
  obtain ⟨uZ1, huZ1, h⟩ := bind_s h
  have huZ1g := grd_s huZ1
  obtain ⟨uZ2, huZ2, h⟩ := bind_s h
  have huZ2g := grd_s huZ2
  cases h
  exact ZL (ZA huZ1g huZ2g) V89.eq_1
theorem w_spec_l1Own (lZ0 : List Int) {r : List Int} (h : M_spec_l1Own lZ0 = some r) : Ok Tryz.prog 194 [.lst .o 1 (lZ0.map AV.i)] ((fun r => .lst .u 1 (r.map AV.i)) r) := by
  refine ok_of_body hmix m194 rfl ?_
  unfold M_spec_l1Own at h
  simp only [ZC, A194, V194, body_eq]
  obtain ⟨uZ1, huZ1, h⟩ := bind_s h
  have huZ1g := grd_s huZ1
  cases h
  exact ZL huZ1g V194.eq_1
theorem w_spec_l4Own (rZ0 : TRoute) {r : TRoute} (h : M_spec_l4Own rZ0 = some r) : Ok Tryz.prog 193 [.agg [.i rZ0.Start, .lst .o 1 (rZ0.Fibers.map AV.i)]] ((fun r => .agg [.i r.Start, .lst .u 1 (r.Fibers.map AV.i)]) r) := by
  refine ok_of_body hmix m193 rfl ?_
  unfold M_spec_l4Own at h
  simp only [ZC, A193, V193, body_eq]
  obtain ⟨rZ1, hrZ1, h⟩ := bind_s h
  refine ZF trivial ?_
  refine ZU trivial (w_spec_l1Own _ hrZ1) ?_
  refine ZG ?_
  cases h
  exact ZL trivial V193.eq_1
theorem w_spec_l9Copy (xZ0 : TLight) {r : TLight} (h : M_spec_l9Copy xZ0 = some r) : Ok Tryz.prog 141 [.agg [.i xZ0.Id, .i xZ0.Route.Start, .lst .o 1 (xZ0.Route.Fibers.map AV.i), .i xZ0.Block.First, .i xZ0.Block.Count]] ((fun r => .agg [.i r.Id, .i r.Route.Start, .lst .u 1 (r.Route.Fibers.map AV.i), .i r.Block.First, .i r.Block.Count]) r) := by
  refine ok_of_body hmix m141 rfl ?_
  unfold M_spec_l9Copy at h
  simp only [ZC, A141, V141, body_eq]
  obtain ⟨rZ1, hrZ1, h⟩ := bind_s h
  refine ZF trivial ?_
  refine ZU trivial (w_spec_l4Own _ hrZ1) ?_
  refine ZG ?_
  cases h
  exact ZL trivial V141.eq_1
def S_spec_l9OwnL1 (pZ0 : TPlan) (rZ1 : TNetwork) (v : Int × List TLight) : St := ⟨[(1, .pt 1 0 0), (2, .pt 2 0 0), (3, .pt 3 0 0), (4, .i v.1)], [(1, .var (.agg [.lst .o 1 (pZ0.Network.Nodes.map AV.z), .lst .o 4 (pZ0.Network.Fibers.map (e_TFiber .o)), .lst .o 5 (pZ0.Lights.map (e_TLight .o))])), (2, .var (.agg [.lst .u 1 [], .lst .u 4 [], .lst .u 5 []])), (3, .var (.agg [.sl 500000192 0 rZ1.Nodes.length, .sl 500000193 0 rZ1.Fibers.length, .sl 500000194 0 v.2.length])), (500000192, .arr 1 (rZ1.Nodes.map AV.z)), (500000193, .arr 4 (rZ1.Fibers.map (e_TFiber .u))), (500000194, .arr 5 (v.2.map (e_TLight .u)))]⟩
def SX_spec_l9OwnL1 (rZ1 : TNetwork) (v : List TLight) : St := ⟨[(2, .pt 2 0 0), (3, .pt 3 0 0)], [(2, .var (.agg [.lst .u 1 [], .lst .u 4 [], .lst .u 5 []])), (3, .var (.agg [.sl 500000192 0 rZ1.Nodes.length, .sl 500000193 0 rZ1.Fibers.length, .sl 500000194 0 v.length])), (500000192, .arr 1 (rZ1.Nodes.map AV.z)), (500000193, .arr 4 (rZ1.Fibers.map (e_TFiber .u))), (500000194, .arr 5 (v.map (e_TLight .u)))]⟩
theorem w_spec_l9OwnL1 (pZ0 : TPlan) (rZ1 : TNetwork) (sZ2 : Int × List TLight) (o : (Int × List TLight) ⊕ (List TLight)) (h : M_spec_l9OwnL1 pZ0 sZ2 = some o) : AWP (OkS Tryz.prog) A75L1 (qL [1, 2, 3, 4] [1, 2, 3, 500000192, 500000193, 500000194] (S_spec_l9OwnL1 pZ0 rZ1) (qX 0 [2, 3] [2, 3, 500000192, 500000193, 500000194] (SX_spec_l9OwnL1 rZ1)) o) (S_spec_l9OwnL1 pZ0 rZ1 sZ2) := by
  unfold M_spec_l9OwnL1 at h
  simp only [ZC, S_spec_l9OwnL1, A75L1]
  obtain ⟨cZ3, h⟩ | ⟨cZ3, h⟩ := cond_s h
  · obtain ⟨yZ4, hyZ4, h⟩ := bind_s h
    obtain ⟨hyZ4a, hyZ4b⟩ := geti_s hyZ4
    obtain ⟨rZ5, hrZ5, h⟩ := bind_s h
    refine ZF (ZA cZ3 (ZA hyZ4a hyZ4b)) ?_
    refine ZU (ZA cZ3 (ZA hyZ4a hyZ4b)) (w_spec_l9Copy _ hrZ5) ?_
    refine ZG ?_
    obtain ⟨lZ6, hlZ6, h⟩ := bnd_s h
    have eZ7 : Row.arr 5 [(.agg [.i rZ5.Id, .i rZ5.Route.Start, .lst .u 1 (rZ5.Route.Fibers.map AV.i), .i rZ5.Block.First, .i rZ5.Block.Count] : AV)] = Row.arr 5 (lZ6.map (e_TLight .u)) := by rw [← hlZ6]; rfl
    have jjZ8 : lZ6.length = 1 := by rw [← hlZ6]; rfl
    obtain ⟨uZ9, huZ9, h⟩ := bind_s h
    have huZ9g := grd_s huZ9
    obtain ⟨lZ10, hlZ10, h⟩ := bnd_s h
    have eZ11 : sZ2.2.map (e_TLight .u) ++ lZ6.map (e_TLight .u) = lZ10.map (e_TLight .u) := by rw [← hlZ10, List.map_append]
    have eZ12 : sZ2.2.length + 1 = lZ10.length := by simp [← hlZ6, ← hlZ10] <;> omega
    rw [eZ12] at huZ9g
    cases h
    exact ZL (ZA cZ3 (ZA hyZ4a (ZA hyZ4b (ZA eZ7 (ZA jjZ8 (ZA huZ9g (ZA eZ11 eZ12))))))) (ZA S_spec_l9OwnL1.eq_1 (ZA SX_spec_l9OwnL1.eq_1 (ZA hlZ6.symm (ZA hlZ10.symm jjZ8))))
  · cases h
    exact ZL cZ3 (ZA S_spec_l9OwnL1.eq_1 SX_spec_l9OwnL1.eq_1)
theorem w_spec_l9Own (pZ0 : TPlan) {r : TPlan} (h : M_spec_l9Own pZ0 = some r) : Ok Tryz.prog 75 [.agg [.lst .o 1 (pZ0.Network.Nodes.map AV.z), .lst .o 4 (pZ0.Network.Fibers.map (e_TFiber .o)), .lst .o 5 (pZ0.Lights.map (e_TLight .o))]] ((fun r => .agg [.lst .u 1 (r.Network.Nodes.map AV.z), .lst .u 4 (r.Network.Fibers.map (e_TFiber .u)), .lst .u 5 (r.Lights.map (e_TLight .u))]) r) := by
  refine ok_of_body hmix m75 rfl ?_
  unfold M_spec_l9Own at h
  simp only [ZC, A75, V75, body_eq]
  obtain ⟨rZ1, hrZ1, h⟩ := bind_s h
  refine ZF trivial ?_
  refine ZU trivial (w_spec_l2Own _ hrZ1) ?_
  refine ZG ?_
  obtain ⟨oZ13, hoZ13, h⟩ := bind_s h
  try refine ZF trivial ?_
  refine join_rule0 (blk_rule0 (loop_rule (w_spec_l9OwnL1 pZ0 rZ1) hoZ13 ?_)) ?_
  · exact ZK (ZA S_spec_l9OwnL1.eq_1 SX_spec_l9OwnL1.eq_1)
  · simp only [ZC, SX_spec_l9OwnL1, A75R2]
    cases h
    exact ZL trivial V75.eq_1
def S_spec_l15CopyL1 (listZ0 : List TLight) (v : Int × List TLight) : St := ⟨[(0, .lst .o 5 (listZ0.map (e_TLight .o))), (3, .sl 3 0 v.2.length), (4, .i v.1)], [(3, .arr 5 (v.2.map (e_TLight .u)))]⟩
def SX_spec_l15CopyL1 (v : List TLight) : St := ⟨[(3, .sl 3 0 v.length)], [(3, .arr 5 (v.map (e_TLight .u)))]⟩
theorem w_spec_l15CopyL1 (listZ0 : List TLight) (sZ1 : Int × List TLight) (o : (Int × List TLight) ⊕ (List TLight)) (h : M_spec_l15CopyL1 listZ0 sZ1 = some o) : AWP (OkS Tryz.prog) A76L1 (qL [0, 3, 4] [3] (S_spec_l15CopyL1 listZ0) (qX 0 [3] [3] (SX_spec_l15CopyL1)) o) (S_spec_l15CopyL1 listZ0 sZ1) := by
  unfold M_spec_l15CopyL1 at h
  simp only [ZC, S_spec_l15CopyL1, A76L1]
  obtain ⟨cZ2, h⟩ | ⟨cZ2, h⟩ := cond_s h
  · obtain ⟨yZ3, hyZ3, h⟩ := bind_s h
    obtain ⟨hyZ3a, hyZ3b⟩ := geti_s hyZ3
    obtain ⟨rZ4, hrZ4, h⟩ := bind_s h
    refine ZF (ZA cZ2 (ZA hyZ3a hyZ3b)) ?_
    refine ZU (ZA cZ2 (ZA hyZ3a hyZ3b)) (w_spec_l9Copy _ hrZ4) ?_
    refine ZG ?_
    obtain ⟨lZ5, hlZ5, h⟩ := bnd_s h
    have eZ6 : Row.arr 5 [(.agg [.i rZ4.Id, .i rZ4.Route.Start, .lst .u 1 (rZ4.Route.Fibers.map AV.i), .i rZ4.Block.First, .i rZ4.Block.Count] : AV)] = Row.arr 5 (lZ5.map (e_TLight .u)) := by rw [← hlZ5]; rfl
    have jjZ7 : lZ5.length = 1 := by rw [← hlZ5]; rfl
    obtain ⟨uZ8, huZ8, h⟩ := bind_s h
    have huZ8g := grd_s huZ8
    obtain ⟨lZ9, hlZ9, h⟩ := bnd_s h
    have eZ10 : sZ1.2.map (e_TLight .u) ++ lZ5.map (e_TLight .u) = lZ9.map (e_TLight .u) := by rw [← hlZ9, List.map_append]
    have eZ11 : sZ1.2.length + 1 = lZ9.length := by simp [← hlZ5, ← hlZ9] <;> omega
    rw [eZ11] at huZ8g
    cases h
    exact ZL (ZA cZ2 (ZA hyZ3a (ZA hyZ3b (ZA eZ6 (ZA jjZ7 (ZA huZ8g (ZA eZ10 eZ11))))))) (ZA S_spec_l15CopyL1.eq_1 (ZA SX_spec_l15CopyL1.eq_1 (ZA hlZ5.symm (ZA hlZ9.symm jjZ7))))
  · cases h
    exact ZL cZ2 (ZA S_spec_l15CopyL1.eq_1 SX_spec_l15CopyL1.eq_1)
theorem w_spec_l15Copy (listZ0 : List TLight) {r : List TLight} (h : M_spec_l15Copy listZ0 = some r) : Ok Tryz.prog 76 [.lst .o 5 (listZ0.map (e_TLight .o))] ((fun r => .lst .u 5 (r.map (e_TLight .u))) r) := by
  refine ok_of_body hmix m76 rfl ?_
  unfold M_spec_l15Copy at h
  simp only [ZC, A76, V76, body_eq]
  obtain ⟨oZ12, hoZ12, h⟩ := bind_s h
  try refine ZF trivial ?_
  refine join_rule0 (blk_rule0 (loop_rule (w_spec_l15CopyL1 listZ0) hoZ12 ?_)) ?_
  · exact ZK (ZA S_spec_l15CopyL1.eq_1 SX_spec_l15CopyL1.eq_1)
  · simp only [ZC, SX_spec_l15CopyL1, A76R2]
    cases h
    exact ZL trivial V76.eq_1
theorem w_spec_StartRestoration (pZ0 : TPlan) {r : TRestoration × Bool} (h : M_spec_StartRestoration pZ0 = some r) : Ok Tryz.prog 25 [.agg [.lst .o 1 (pZ0.Network.Nodes.map AV.z), .lst .o 4 (pZ0.Network.Fibers.map (e_TFiber .o)), .lst .o 5 (pZ0.Lights.map (e_TLight .o))]] ((fun r => .tup [.agg [.lst .u 1 (r.1.Plan.Network.Nodes.map AV.z), .lst .u 4 (r.1.Plan.Network.Fibers.map (e_TFiber .u)), .lst .u 5 (r.1.Plan.Lights.map (e_TLight .u)), .lst .u 5 (r.1.Home.map (e_TLight .u)), .lst .u 1 (r.1.Down.map AV.i)], .b r.2]) r) := by
  refine ok_of_body hmix m25 rfl ?_
  unfold M_spec_StartRestoration at h
  simp only [ZC, A25, V25, body_eq]
  obtain ⟨rZ1, hrZ1, h⟩ := bind_s h
  refine ZF trivial ?_
  refine ZS trivial (w_spec_l9Good _ hrZ1) ?_
  refine ZG ?_
  obtain ⟨cZ2, h⟩ | ⟨cZ2, h⟩ := cond_s h
  · cases h
    exact ZL cZ2 V25.eq_1
  · obtain ⟨rZ3, hrZ3, h⟩ := bind_s h
    refine ZF cZ2 ?_
    refine ZU cZ2 (w_spec_l9Own _ hrZ3) ?_
    refine ZG ?_
    obtain ⟨rZ4, hrZ4, h⟩ := bind_s h
    refine ZF cZ2 ?_
    refine ZU cZ2 (w_spec_l15Copy _ hrZ4) ?_
    refine ZG ?_
    cases h
    exact ZL cZ2 V25.eq_1
theorem w_impl_within (nZ0 : Int) (lowZ0 : Int) (highZ0 : Int) {r : Bool} (h : M_impl_within nZ0 lowZ0 highZ0 = some r) : Ok Tryz.prog 132 [.i nZ0, .i lowZ0, .i highZ0] ((fun r => .b r) r) := by
  refine ok_of_body hmix m132 rfl ?_
  unfold M_impl_within at h
  simp only [ZC, A132, V132, body_eq]
  obtain ⟨cZ1, h⟩ | ⟨cZ1, h⟩ := cond_s h
  · cases h
    exact ZL cZ1 V132.eq_1
  · cases h
    exact ZL cZ1 V132.eq_1
def S_impl_isNameL1 (sZ0 : ByteArray) (v : Int) : St := ⟨[(0, .z sZ0), (7, .i (sZ0.size : Int)), (8, .i v)], []⟩
def SX_impl_isNameL1 (sZ0 : ByteArray) (v : Unit) : St := ⟨[(0, .z sZ0)], []⟩
theorem w_impl_isNameL1 (sZ0 : ByteArray) (sZ1 : Int) (o : Int ⊕ (Unit ⊕ Bool)) (h : M_impl_isNameL1 sZ0 sZ1 = some o) : AWP (OkS Tryz.prog) A180L2 (qL [0, 7, 8] [] (S_impl_isNameL1 sZ0) (qS (qX 0 [0] [] (SX_impl_isNameL1 sZ0)) (qR V180 (fun r => .b r))) o) (S_impl_isNameL1 sZ0 sZ1) := by
  unfold M_impl_isNameL1 at h
  simp only [ZC, S_impl_isNameL1, A180L2]
  obtain ⟨cZ2, h⟩ | ⟨cZ2, h⟩ := cond_s h
  · obtain ⟨oZ7, hoZ7, h⟩ := bind_s h
    try refine ZF cZ2 ?_
    refine join_rule0 (sh := (fun v => ⟨[(0, .z sZ0), (3, .i sZ1), (4, .b v.1), (5, .b v.2), (7, .i (sZ0.size : Int)), (8, .i sZ1)], []⟩)) (s := oZ7) ?_ ?_
    · replace h := hoZ7
      obtain ⟨yZ3, hyZ3, h⟩ := bind_s h
      obtain ⟨hyZ3a, hyZ3b⟩ := getz_s hyZ3
      obtain ⟨cZ4, h⟩ | ⟨cZ4, h⟩ := cond_s h
      · obtain ⟨cZ5, h⟩ | ⟨cZ5, h⟩ := cond_s h
        · cases h
          exact ZL (ZA cZ2 (ZA hyZ3a (ZA hyZ3b (ZA cZ4 cZ5)))) trivial
        · cases h
          exact ZL (ZA cZ2 (ZA hyZ3a (ZA hyZ3b (ZA cZ4 cZ5)))) trivial
      · obtain ⟨cZ6, h⟩ | ⟨cZ6, h⟩ := cond_s h
        · cases h
          exact ZL (ZA cZ2 (ZA hyZ3a (ZA hyZ3b (ZA cZ4 cZ6)))) trivial
        · cases h
          exact ZL (ZA cZ2 (ZA hyZ3a (ZA hyZ3b (ZA cZ4 cZ6)))) trivial
    · simp only [ZC, A180R1]
      obtain ⟨cZ8, h⟩ | ⟨cZ8, h⟩ := cond_s h
      · obtain ⟨cZ9, h⟩ | ⟨cZ9, h⟩ := cond_s h
        · cases h
          exact ZL (ZA cZ2 (ZA cZ8 cZ9)) V180.eq_1
        · obtain ⟨cZ10, h⟩ | ⟨cZ10, h⟩ := cond_s h
          · cases h
            exact ZL (ZA cZ2 (ZA cZ8 (ZA cZ9 cZ10))) V180.eq_1
          · cases h
            exact ZL (ZA cZ2 (ZA cZ8 (ZA cZ9 cZ10))) (ZA S_impl_isNameL1.eq_1 SX_impl_isNameL1.eq_1)
      · cases h
        exact ZL (ZA cZ2 cZ8) (ZA S_impl_isNameL1.eq_1 SX_impl_isNameL1.eq_1)
  · cases h
    exact ZL cZ2 (ZA S_impl_isNameL1.eq_1 SX_impl_isNameL1.eq_1)
theorem w_impl_isName (sZ0 : ByteArray) {r : Bool} (h : M_impl_isName sZ0 = some r) : Ok Tryz.prog 180 [.z sZ0] ((fun r => .b r) r) := by
  refine ok_of_body hmix m180 rfl ?_
  unfold M_impl_isName at h
  simp only [ZC, A180, V180, body_eq]
  obtain ⟨oZ11, hoZ11, h⟩ := bind_s h
  try refine ZF trivial ?_
  refine join_rule (o := oZ11) (blk_rule sideR (loop_rule (w_impl_isNameL1 sZ0) hoZ11 ?_)) (fun vZ12 hv => ?_) (fun xZ13 hv e τ hne hq => ?_)
  · exact ZK (ZA S_impl_isNameL1.eq_1 SX_impl_isNameL1.eq_1)
  · subst hv
    simp only [] at h
    simp only [ZC, SX_impl_isNameL1, A180R3]
    obtain ⟨rZ14, hrZ14, h⟩ := bind_s h
    refine ZF trivial ?_
    refine ZS trivial (w_impl_within _ _ _ hrZ14) ?_
    refine ZG ?_
    cases h
    exact ZL trivial V180.eq_1
  · subst hv
    simp only [] at h
    obtain ⟨rfl, qZ15⟩ := hq
    cases h
    exact qZ15
def S_slices_Index_Lstring_stringL1 (sZ0 : List ByteArray) (vZ0 : ByteArray) (v : Int) : St := ⟨[(0, .lst .o 1 (sZ0.map AV.z)), (1, .z vZ0), (7, .i (sZ0.length : Int)), (8, .i v)], []⟩
def SX_slices_Index_Lstring_stringL1 (v : Unit) : St := ⟨[], []⟩
theorem w_slices_Index_Lstring_stringL1 (sZ0 : List ByteArray) (vZ0 : ByteArray) (sZ1 : Int) (o : Int ⊕ (Unit ⊕ Int)) (h : M_slices_Index_Lstring_stringL1 sZ0 vZ0 sZ1 = some o) : AWP (OkS Tryz.prog) A221L1 (qL [0, 1, 7, 8] [] (S_slices_Index_Lstring_stringL1 sZ0 vZ0) (qS (qX 0 [] [] (SX_slices_Index_Lstring_stringL1)) (qR V221 (fun r => .i r))) o) (S_slices_Index_Lstring_stringL1 sZ0 vZ0 sZ1) := by
  unfold M_slices_Index_Lstring_stringL1 at h
  simp only [ZC, S_slices_Index_Lstring_stringL1, A221L1]
  obtain ⟨cZ2, h⟩ | ⟨cZ2, h⟩ := cond_s h
  · obtain ⟨yZ3, hyZ3, h⟩ := bind_s h
    obtain ⟨hyZ3a, hyZ3b⟩ := geti_s hyZ3
    obtain ⟨cZ4, h⟩ | ⟨cZ4, h⟩ := cond_s h
    · cases h
      exact ZL (ZA cZ2 (ZA hyZ3a (ZA hyZ3b cZ4))) V221.eq_1
    · cases h
      exact ZL (ZA cZ2 (ZA hyZ3a (ZA hyZ3b cZ4))) (ZA S_slices_Index_Lstring_stringL1.eq_1 SX_slices_Index_Lstring_stringL1.eq_1)
  · cases h
    exact ZL cZ2 (ZA S_slices_Index_Lstring_stringL1.eq_1 SX_slices_Index_Lstring_stringL1.eq_1)
theorem w_slices_Index_Lstring_string (sZ0 : List ByteArray) (vZ0 : ByteArray) {r : Int} (h : M_slices_Index_Lstring_string sZ0 vZ0 = some r) : Ok Tryz.prog 221 [.lst .o 1 (sZ0.map AV.z), .z vZ0] ((fun r => .i r) r) := by
  refine ok_of_body hmix m221 rfl ?_
  unfold M_slices_Index_Lstring_string at h
  simp only [ZC, A221, V221, body_eq]
  obtain ⟨oZ5, hoZ5, h⟩ := bind_s h
  try refine ZF trivial ?_
  refine join_rule (o := oZ5) (blk_rule sideR (loop_rule (w_slices_Index_Lstring_stringL1 sZ0 vZ0) hoZ5 ?_)) (fun vZ6 hv => ?_) (fun xZ7 hv e τ hne hq => ?_)
  · exact ZK (ZA S_slices_Index_Lstring_stringL1.eq_1 SX_slices_Index_Lstring_stringL1.eq_1)
  · subst hv
    simp only [] at h
    simp only [ZC, SX_slices_Index_Lstring_stringL1, A221R2]
    cases h
    exact ZL trivial V221.eq_1
  · subst hv
    simp only [] at h
    obtain ⟨rfl, qZ8⟩ := hq
    cases h
    exact qZ8
theorem w_slices_Contains_Lstring_string (sZ0 : List ByteArray) (vZ0 : ByteArray) {r : Bool} (h : M_slices_Contains_Lstring_string sZ0 vZ0 = some r) : Ok Tryz.prog 181 [.lst .o 1 (sZ0.map AV.z), .z vZ0] ((fun r => .b r) r) := by
  refine ok_of_body hmix m181 rfl ?_
  unfold M_slices_Contains_Lstring_string at h
  simp only [ZC, A181, V181, body_eq]
  obtain ⟨rZ1, hrZ1, h⟩ := bind_s h
  refine ZF trivial ?_
  refine ZS trivial (w_slices_Index_Lstring_string _ _ hrZ1) ?_
  refine ZG ?_
  cases h
  exact ZL trivial V181.eq_1
theorem w_cmp_isNaN_int (xZ0 : Int) {r : Bool} (h : M_cmp_isNaN_int xZ0 = some r) : Ok Tryz.prog 233 [.i xZ0] ((fun r => .b r) r) := by
  refine ok_of_body hmix m233 rfl ?_
  unfold M_cmp_isNaN_int at h
  simp only [ZC, A233, V233, body_eq]
  cases h
  exact ZL trivial V233.eq_1
theorem w_cmp_Compare_int (xZ0 : Int) (yZ0 : Int) {r : Int} (h : M_cmp_Compare_int xZ0 yZ0 = some r) : Ok Tryz.prog 223 [.i xZ0, .i yZ0] ((fun r => .i r) r) := by
  refine ok_of_body hmix m223 rfl ?_
  unfold M_cmp_Compare_int at h
  simp only [ZC, A223, V223, body_eq]
  obtain ⟨rZ1, hrZ1, h⟩ := bind_s h
  refine ZF trivial ?_
  refine ZS trivial (w_cmp_isNaN_int _ hrZ1) ?_
  refine ZG ?_
  obtain ⟨rZ2, hrZ2, h⟩ := bind_s h
  refine ZF trivial ?_
  refine ZS trivial (w_cmp_isNaN_int _ hrZ2) ?_
  refine ZG ?_
  obtain ⟨cZ3, h⟩ | ⟨cZ3, h⟩ := cond_s h
  · obtain ⟨cZ4, h⟩ | ⟨cZ4, h⟩ := cond_s h
    · cases h
      exact ZL (ZA cZ3 cZ4) V223.eq_1
    · cases h
      exact ZL (ZA cZ3 cZ4) V223.eq_1
  · obtain ⟨cZ5, h⟩ | ⟨cZ5, h⟩ := cond_s h
    · cases h
      exact ZL (ZA cZ3 cZ5) V223.eq_1
    · obtain ⟨cZ6, h⟩ | ⟨cZ6, h⟩ := cond_s h
      · cases h
        exact ZL (ZA cZ3 (ZA cZ5 cZ6)) V223.eq_1
      · obtain ⟨cZ7, h⟩ | ⟨cZ7, h⟩ := cond_s h
        · cases h
          exact ZL (ZA cZ3 (ZA cZ5 (ZA cZ6 cZ7))) V223.eq_1
        · cases h
          exact ZL (ZA cZ3 (ZA cZ5 (ZA cZ6 cZ7))) V223.eq_1
def S_cmp_Or_intL1 (valsZ0 : List Int) (v : Int) : St := ⟨[(3, .i 0), (6, .lst .o 1 (valsZ0.map AV.i)), (7, .i (valsZ0.length : Int)), (8, .i v)], []⟩
def SX_cmp_Or_intL1 (v : Unit) : St := ⟨[(3, .i 0)], []⟩
theorem w_cmp_Or_intL1 (valsZ0 : List Int) (sZ1 : Int) (o : Int ⊕ (Unit ⊕ Int)) (h : M_cmp_Or_intL1 valsZ0 sZ1 = some o) : AWP (OkS Tryz.prog) A222L1 (qL [3, 6, 7, 8] [] (S_cmp_Or_intL1 valsZ0) (qS (qX 0 [3] [] (SX_cmp_Or_intL1)) (qR V222 (fun r => .i r))) o) (S_cmp_Or_intL1 valsZ0 sZ1) := by
  unfold M_cmp_Or_intL1 at h
  simp only [ZC, S_cmp_Or_intL1, A222L1]
  obtain ⟨cZ2, h⟩ | ⟨cZ2, h⟩ := cond_s h
  · obtain ⟨yZ3, hyZ3, h⟩ := bind_s h
    obtain ⟨hyZ3a, hyZ3b⟩ := geti_s hyZ3
    obtain ⟨cZ4, h⟩ | ⟨cZ4, h⟩ := cond_s h
    · cases h
      exact ZL (ZA cZ2 (ZA hyZ3a (ZA hyZ3b cZ4))) V222.eq_1
    · cases h
      exact ZL (ZA cZ2 (ZA hyZ3a (ZA hyZ3b cZ4))) (ZA S_cmp_Or_intL1.eq_1 SX_cmp_Or_intL1.eq_1)
  · cases h
    exact ZL cZ2 (ZA S_cmp_Or_intL1.eq_1 SX_cmp_Or_intL1.eq_1)
theorem w_cmp_Or_int (valsZ0 : List Int) {r : Int} (h : M_cmp_Or_int valsZ0 = some r) : Ok Tryz.prog 222 [.lst .o 1 (valsZ0.map AV.i)] ((fun r => .i r) r) := by
  refine ok_of_body hmix m222 rfl ?_
  unfold M_cmp_Or_int at h
  simp only [ZC, A222, V222, body_eq]
  obtain ⟨oZ5, hoZ5, h⟩ := bind_s h
  try refine ZF trivial ?_
  refine join_rule (o := oZ5) (blk_rule sideR (loop_rule (w_cmp_Or_intL1 valsZ0) hoZ5 ?_)) (fun vZ6 hv => ?_) (fun xZ7 hv e τ hne hq => ?_)
  · exact ZK (ZA S_cmp_Or_intL1.eq_1 SX_cmp_Or_intL1.eq_1)
  · subst hv
    simp only [] at h
    simp only [ZC, SX_cmp_Or_intL1, A222R2]
    cases h
    exact ZL trivial V222.eq_1
  · subst hv
    simp only [] at h
    obtain ⟨rfl, qZ8⟩ := hq
    cases h
    exact qZ8
theorem w_impl_compareFibers (aZ0 : TFiber) (bZ0 : TFiber) {r : Int} (h : M_impl_compareFibers aZ0 bZ0 = some r) : Ok Tryz.prog 182 [.agg [.i aZ0.A, .i aZ0.B, .i aZ0.Length, .i aZ0.Risk], .agg [.i bZ0.A, .i bZ0.B, .i bZ0.Length, .i bZ0.Risk]] ((fun r => .i r) r) := by
  refine ok_of_body hmix m182 rfl ?_
  unfold M_impl_compareFibers at h
  simp only [ZC, A182, V182, body_eq]
  obtain ⟨rZ1, hrZ1, h⟩ := bind_s h
  refine ZF trivial ?_
  refine ZS trivial (w_cmp_Compare_int _ _ hrZ1) ?_
  refine ZG ?_
  obtain ⟨rZ2, hrZ2, h⟩ := bind_s h
  refine ZF trivial ?_
  refine ZS trivial (w_cmp_Compare_int _ _ hrZ2) ?_
  refine ZG ?_
  obtain ⟨rZ3, hrZ3, h⟩ := bind_s h
  refine ZF trivial ?_
  refine ZS trivial (w_cmp_Compare_int _ _ hrZ3) ?_
  refine ZG ?_
  obtain ⟨rZ4, hrZ4, h⟩ := bind_s h
  refine ZF trivial ?_
  refine ZS trivial (w_cmp_Compare_int _ _ hrZ4) ?_
  refine ZG ?_
  obtain ⟨lZ5, hlZ5, h⟩ := bnd_s h
  have eZ6 : Row.arr 1 [(.i rZ1 : AV), (.i rZ2 : AV), (.i rZ3 : AV), (.i rZ4 : AV)] = Row.arr 1 (lZ5.map AV.i) := by rw [← hlZ5]; rfl
  have jjZ7 : lZ5.length = 4 := by rw [← hlZ5]; rfl
  have nZ8 : sub (lZ5.map AV.i) 0 4 = lZ5.map AV.i := sub_n _ (by simp [← hlZ5])
  obtain ⟨rZ9, hrZ9, h⟩ := bind_s h
  refine ZF (ZA eZ6 (ZA jjZ7 nZ8)) ?_
  refine ZS (ZA eZ6 (ZA jjZ7 nZ8)) (w_cmp_Or_int _ hrZ9) ?_
  refine ZG ?_
  cases h
  exact ZL (ZA eZ6 (ZA jjZ7 nZ8)) (ZA V182.eq_1 (ZA hlZ5.symm jjZ7))
def S_impl_IsValidNetworkL1 (nZ0 : TNetwork) (v : Int) : St := ⟨[(1, .pt 1 0 0), (8, .lst .o 1 (nZ0.Nodes.map AV.z)), (9, .i (nZ0.Nodes.length : Int)), (10, .i v)], [(1, .var (.agg [.lst .o 1 (nZ0.Nodes.map AV.z), .lst .o 4 (nZ0.Fibers.map (e_TFiber .o))]))]⟩
def SX_impl_IsValidNetworkL1 (nZ0 : TNetwork) (v : Unit) : St := ⟨[(1, .pt 1 0 0)], [(1, .var (.agg [.lst .o 1 (nZ0.Nodes.map AV.z), .lst .o 4 (nZ0.Fibers.map (e_TFiber .o))]))]⟩
theorem w_impl_IsValidNetworkL1 (nZ0 : TNetwork) (sZ1 : Int) (o : Int ⊕ (Unit ⊕ Bool)) (h : M_impl_IsValidNetworkL1 nZ0 sZ1 = some o) : AWP (OkS Tryz.prog) A128L1 (qL [1, 8, 9, 10] [1] (S_impl_IsValidNetworkL1 nZ0) (qS (qX 0 [1] [1] (SX_impl_IsValidNetworkL1 nZ0)) (qR V128 (fun r => .b r))) o) (S_impl_IsValidNetworkL1 nZ0 sZ1) := by
  unfold M_impl_IsValidNetworkL1 at h
  simp only [ZC, S_impl_IsValidNetworkL1, A128L1]
  obtain ⟨cZ2, h⟩ | ⟨cZ2, h⟩ := cond_s h
  · obtain ⟨yZ3, hyZ3, h⟩ := bind_s h
    obtain ⟨hyZ3a, hyZ3b⟩ := geti_s hyZ3
    obtain ⟨rZ4, hrZ4, h⟩ := bind_s h
    refine ZF (ZA cZ2 (ZA hyZ3a hyZ3b)) ?_
    refine ZS (ZA cZ2 (ZA hyZ3a hyZ3b)) (w_impl_isName _ hrZ4) ?_
    refine ZG ?_
    obtain ⟨cZ5, h⟩ | ⟨cZ5, h⟩ := cond_s h
    · cases h
      exact ZL (ZA cZ2 (ZA hyZ3a (ZA hyZ3b cZ5))) V128.eq_1
    · obtain ⟨lZ6, hlZ6, h⟩ := bind_s h
      obtain ⟨hlZ6a, hlZ6b, hlZ6c, hlZ6d, hlZ6e⟩ := slT_s AV.z hlZ6
      obtain ⟨rZ7, hrZ7, h⟩ := bind_s h
      refine ZF (ZA cZ2 (ZA hyZ3a (ZA hyZ3b (ZA cZ5 (ZA hlZ6a (ZA hlZ6b (ZA hlZ6c (ZA hlZ6d hlZ6e)))))))) ?_
      refine ZS (ZA cZ2 (ZA hyZ3a (ZA hyZ3b (ZA cZ5 (ZA hlZ6a (ZA hlZ6b (ZA hlZ6c (ZA hlZ6d hlZ6e)))))))) (w_slices_Contains_Lstring_string _ _ hrZ7) ?_
      refine ZG ?_
      obtain ⟨cZ8, h⟩ | ⟨cZ8, h⟩ := cond_s h
      · cases h
        exact ZL (ZA cZ2 (ZA hyZ3a (ZA hyZ3b (ZA cZ5 (ZA hlZ6a (ZA hlZ6b (ZA hlZ6c (ZA hlZ6d (ZA hlZ6e cZ8))))))))) V128.eq_1
      · cases h
        exact ZL (ZA cZ2 (ZA hyZ3a (ZA hyZ3b (ZA cZ5 (ZA hlZ6a (ZA hlZ6b (ZA hlZ6c (ZA hlZ6d (ZA hlZ6e cZ8))))))))) (ZA S_impl_IsValidNetworkL1.eq_1 SX_impl_IsValidNetworkL1.eq_1)
  · cases h
    exact ZL cZ2 (ZA S_impl_IsValidNetworkL1.eq_1 SX_impl_IsValidNetworkL1.eq_1)
def S_impl_IsValidNetworkL2 (nZ0 : TNetwork) (v : Int) : St := ⟨[(1, .pt 1 0 0), (28, .lst .o 4 (nZ0.Fibers.map (e_TFiber .o))), (29, .i (nZ0.Fibers.length : Int)), (30, .i v)], [(1, .var (.agg [.lst .o 1 (nZ0.Nodes.map AV.z), .lst .o 4 (nZ0.Fibers.map (e_TFiber .o))]))]⟩
def SX_impl_IsValidNetworkL2 (nZ0 : TNetwork) (v : Unit) : St := ⟨[(1, .pt 1 0 0)], [(1, .var (.agg [.lst .o 1 (nZ0.Nodes.map AV.z), .lst .o 4 (nZ0.Fibers.map (e_TFiber .o))]))]⟩
theorem w_impl_IsValidNetworkL2 (nZ0 : TNetwork) (sZ12 : Int) (o : Int ⊕ (Unit ⊕ Bool)) (h : M_impl_IsValidNetworkL2 nZ0 sZ12 = some o) : AWP (OkS Tryz.prog) A128L3 (qL [1, 28, 29, 30] [1] (S_impl_IsValidNetworkL2 nZ0) (qS (qX 2 [1] [1] (SX_impl_IsValidNetworkL2 nZ0)) (qR V128 (fun r => .b r))) o) (S_impl_IsValidNetworkL2 nZ0 sZ12) := by
  unfold M_impl_IsValidNetworkL2 at h
  simp only [ZC, S_impl_IsValidNetworkL2, A128L3]
  obtain ⟨cZ13, h⟩ | ⟨cZ13, h⟩ := cond_s h
  · obtain ⟨yZ14, hyZ14, h⟩ := bind_s h
    obtain ⟨hyZ14a, hyZ14b⟩ := geti_s hyZ14
    obtain ⟨cZ15, h⟩ | ⟨cZ15, h⟩ := cond_s h
    · cases h
      exact ZL (ZA cZ13 (ZA hyZ14a (ZA hyZ14b cZ15))) V128.eq_1
    · obtain ⟨cZ16, h⟩ | ⟨cZ16, h⟩ := cond_s h
      · cases h
        exact ZL (ZA cZ13 (ZA hyZ14a (ZA hyZ14b (ZA cZ15 cZ16)))) V128.eq_1
      · obtain ⟨cZ17, h⟩ | ⟨cZ17, h⟩ := cond_s h
        · cases h
          exact ZL (ZA cZ13 (ZA hyZ14a (ZA hyZ14b (ZA cZ15 (ZA cZ16 cZ17))))) V128.eq_1
        · obtain ⟨rZ18, hrZ18, h⟩ := bind_s h
          refine ZF (ZA cZ13 (ZA hyZ14a (ZA hyZ14b (ZA cZ15 (ZA cZ16 cZ17))))) ?_
          refine ZS (ZA cZ13 (ZA hyZ14a (ZA hyZ14b (ZA cZ15 (ZA cZ16 cZ17))))) (w_impl_within _ _ _ hrZ18) ?_
          refine ZG ?_
          obtain ⟨cZ19, h⟩ | ⟨cZ19, h⟩ := cond_s h
          · cases h
            exact ZL (ZA cZ13 (ZA hyZ14a (ZA hyZ14b (ZA cZ15 (ZA cZ16 (ZA cZ17 cZ19)))))) V128.eq_1
          · obtain ⟨rZ20, hrZ20, h⟩ := bind_s h
            refine ZF (ZA cZ13 (ZA hyZ14a (ZA hyZ14b (ZA cZ15 (ZA cZ16 (ZA cZ17 cZ19)))))) ?_
            refine ZS (ZA cZ13 (ZA hyZ14a (ZA hyZ14b (ZA cZ15 (ZA cZ16 (ZA cZ17 cZ19)))))) (w_impl_within _ _ _ hrZ20) ?_
            refine ZG ?_
            obtain ⟨cZ21, h⟩ | ⟨cZ21, h⟩ := cond_s h
            · cases h
              exact ZL (ZA cZ13 (ZA hyZ14a (ZA hyZ14b (ZA cZ15 (ZA cZ16 (ZA cZ17 (ZA cZ19 cZ21))))))) V128.eq_1
            · obtain ⟨cZ22, h⟩ | ⟨cZ22, h⟩ := cond_s h
              · obtain ⟨yZ23, hyZ23, h⟩ := bind_s h
                obtain ⟨hyZ23a, hyZ23b⟩ := geti_s hyZ23
                obtain ⟨rZ24, hrZ24, h⟩ := bind_s h
                refine ZF (ZA cZ13 (ZA hyZ14a (ZA hyZ14b (ZA cZ15 (ZA cZ16 (ZA cZ17 (ZA cZ19 (ZA cZ21 (ZA cZ22 (ZA hyZ23a hyZ23b)))))))))) ?_
                refine ZS (ZA cZ13 (ZA hyZ14a (ZA hyZ14b (ZA cZ15 (ZA cZ16 (ZA cZ17 (ZA cZ19 (ZA cZ21 (ZA cZ22 (ZA hyZ23a hyZ23b)))))))))) (w_impl_compareFibers _ _ hrZ24) ?_
                refine ZG ?_
                obtain ⟨cZ25, h⟩ | ⟨cZ25, h⟩ := cond_s h
                · cases h
                  exact ZL (ZA cZ13 (ZA hyZ14a (ZA hyZ14b (ZA cZ15 (ZA cZ16 (ZA cZ17 (ZA cZ19 (ZA cZ21 (ZA cZ22 (ZA hyZ23a (ZA hyZ23b cZ25))))))))))) V128.eq_1
                · cases h
                  exact ZL (ZA cZ13 (ZA hyZ14a (ZA hyZ14b (ZA cZ15 (ZA cZ16 (ZA cZ17 (ZA cZ19 (ZA cZ21 (ZA cZ22 (ZA hyZ23a (ZA hyZ23b cZ25))))))))))) (ZA S_impl_IsValidNetworkL2.eq_1 SX_impl_IsValidNetworkL2.eq_1)
              · cases h
                exact ZL (ZA cZ13 (ZA hyZ14a (ZA hyZ14b (ZA cZ15 (ZA cZ16 (ZA cZ17 (ZA cZ19 (ZA cZ21 cZ22)))))))) (ZA S_impl_IsValidNetworkL2.eq_1 SX_impl_IsValidNetworkL2.eq_1)
  · cases h
    exact ZL cZ13 (ZA S_impl_IsValidNetworkL2.eq_1 SX_impl_IsValidNetworkL2.eq_1)
theorem w_impl_IsValidNetwork (nZ0 : TNetwork) {r : Bool} (h : M_impl_IsValidNetwork nZ0 = some r) : Ok Tryz.prog 128 [.agg [.lst .o 1 (nZ0.Nodes.map AV.z), .lst .o 4 (nZ0.Fibers.map (e_TFiber .o))]] ((fun r => .b r) r) := by
  refine ok_of_body hmix m128 rfl ?_
  unfold M_impl_IsValidNetwork at h
  simp only [ZC, A128, V128, body_eq]
  obtain ⟨oZ9, hoZ9, h⟩ := bind_s h
  try refine ZF trivial ?_
  refine join_rule (o := oZ9) (blk_rule sideR (loop_rule (w_impl_IsValidNetworkL1 nZ0) hoZ9 ?_)) (fun vZ10 hv => ?_) (fun xZ11 hv e τ hne hq => ?_)
  · exact ZK (ZA S_impl_IsValidNetworkL1.eq_1 SX_impl_IsValidNetworkL1.eq_1)
  · subst hv
    simp only [] at h
    simp only [ZC, SX_impl_IsValidNetworkL1, A128R2]
    obtain ⟨oZ26, hoZ26, h⟩ := bind_s h
    try refine ZF trivial ?_
    refine join_rule (o := oZ26) (blk_rule sideR (loop_rule (w_impl_IsValidNetworkL2 nZ0) hoZ26 ?_)) (fun vZ27 hv => ?_) (fun xZ28 hv e τ hne hq => ?_)
    · exact ZK (ZA S_impl_IsValidNetworkL2.eq_1 SX_impl_IsValidNetworkL2.eq_1)
    · subst hv
      simp only [] at h
      simp only [ZC, SX_impl_IsValidNetworkL2, A128R4]
      obtain ⟨rZ29, hrZ29, h⟩ := bind_s h
      refine ZF trivial ?_
      refine ZS trivial (w_impl_within _ _ _ hrZ29) ?_
      refine ZG ?_
      obtain ⟨cZ30, h⟩ | ⟨cZ30, h⟩ := cond_s h
      · cases h
        exact ZL cZ30 V128.eq_1
      · cases h
        exact ZL cZ30 V128.eq_1
    · subst hv
      simp only [] at h
      obtain ⟨rfl, qZ31⟩ := hq
      cases h
      exact qZ31
  · subst hv
    simp only [] at h
    obtain ⟨rfl, qZ32⟩ := hq
    cases h
    exact qZ32
theorem w_impl_otherEnd (fZ0 : TFiber) (nodeZ0 : Int) {r : Int} (h : M_impl_otherEnd fZ0 nodeZ0 = some r) : Ok Tryz.prog 185 [.agg [.i fZ0.A, .i fZ0.B, .i fZ0.Length, .i fZ0.Risk], .i nodeZ0] ((fun r => .i r) r) := by
  refine ok_of_body hmix m185 rfl ?_
  unfold M_impl_otherEnd at h
  simp only [ZC, A185, V185, body_eq]
  obtain ⟨cZ1, h⟩ | ⟨cZ1, h⟩ := cond_s h
  · cases h
    exact ZL cZ1 V185.eq_1
  · obtain ⟨cZ2, h⟩ | ⟨cZ2, h⟩ := cond_s h
    · cases h
      exact ZL (ZA cZ1 cZ2) V185.eq_1
    · cases h
      exact ZL (ZA cZ1 cZ2) V185.eq_1
def S_slices_Index_Lint_intL1 (sZ0 : List Int) (vZ0 : Int) (v : Int) : St := ⟨[(0, .lst .o 1 (sZ0.map AV.i)), (1, .i vZ0), (7, .i (sZ0.length : Int)), (8, .i v)], []⟩
def SX_slices_Index_Lint_intL1 (v : Unit) : St := ⟨[], []⟩
theorem w_slices_Index_Lint_intL1 (sZ0 : List Int) (vZ0 : Int) (sZ1 : Int) (o : Int ⊕ (Unit ⊕ Int)) (h : M_slices_Index_Lint_intL1 sZ0 vZ0 sZ1 = some o) : AWP (OkS Tryz.prog) A146L1 (qL [0, 1, 7, 8] [] (S_slices_Index_Lint_intL1 sZ0 vZ0) (qS (qX 0 [] [] (SX_slices_Index_Lint_intL1)) (qR V146 (fun r => .i r))) o) (S_slices_Index_Lint_intL1 sZ0 vZ0 sZ1) := by
  unfold M_slices_Index_Lint_intL1 at h
  simp only [ZC, S_slices_Index_Lint_intL1, A146L1]
  obtain ⟨cZ2, h⟩ | ⟨cZ2, h⟩ := cond_s h
  · obtain ⟨yZ3, hyZ3, h⟩ := bind_s h
    obtain ⟨hyZ3a, hyZ3b⟩ := geti_s hyZ3
    obtain ⟨cZ4, h⟩ | ⟨cZ4, h⟩ := cond_s h
    · cases h
      exact ZL (ZA cZ2 (ZA hyZ3a (ZA hyZ3b cZ4))) V146.eq_1
    · cases h
      exact ZL (ZA cZ2 (ZA hyZ3a (ZA hyZ3b cZ4))) (ZA S_slices_Index_Lint_intL1.eq_1 SX_slices_Index_Lint_intL1.eq_1)
  · cases h
    exact ZL cZ2 (ZA S_slices_Index_Lint_intL1.eq_1 SX_slices_Index_Lint_intL1.eq_1)
theorem w_slices_Index_Lint_int (sZ0 : List Int) (vZ0 : Int) {r : Int} (h : M_slices_Index_Lint_int sZ0 vZ0 = some r) : Ok Tryz.prog 146 [.lst .o 1 (sZ0.map AV.i), .i vZ0] ((fun r => .i r) r) := by
  refine ok_of_body hmix m146 rfl ?_
  unfold M_slices_Index_Lint_int at h
  simp only [ZC, A146, V146, body_eq]
  obtain ⟨oZ5, hoZ5, h⟩ := bind_s h
  try refine ZF trivial ?_
  refine join_rule (o := oZ5) (blk_rule sideR (loop_rule (w_slices_Index_Lint_intL1 sZ0 vZ0) hoZ5 ?_)) (fun vZ6 hv => ?_) (fun xZ7 hv e τ hne hq => ?_)
  · exact ZK (ZA S_slices_Index_Lint_intL1.eq_1 SX_slices_Index_Lint_intL1.eq_1)
  · subst hv
    simp only [] at h
    simp only [ZC, SX_slices_Index_Lint_intL1, A146R2]
    cases h
    exact ZL trivial V146.eq_1
  · subst hv
    simp only [] at h
    obtain ⟨rfl, qZ8⟩ := hq
    cases h
    exact qZ8
theorem w_slices_Contains_Lint_int (sZ0 : List Int) (vZ0 : Int) {r : Bool} (h : M_slices_Contains_Lint_int sZ0 vZ0 = some r) : Ok Tryz.prog 84 [.lst .o 1 (sZ0.map AV.i), .i vZ0] ((fun r => .b r) r) := by
  refine ok_of_body hmix m84 rfl ?_
  unfold M_slices_Contains_Lint_int at h
  simp only [ZC, A84, V84, body_eq]
  obtain ⟨rZ1, hrZ1, h⟩ := bind_s h
  refine ZF trivial ?_
  refine ZS trivial (w_slices_Index_Lint_int _ _ hrZ1) ?_
  refine ZG ?_
  cases h
  exact ZL trivial V84.eq_1
def S_impl_visitedL1 (nZ0 : TNetwork) (rZ0 : TRoute) (v : Int × Int × List Int) : St := ⟨[(2, .pt 2 0 0), (6, .sl 6 0 v.2.2.length), (7, .i v.1), (30, .lst .o 1 (rZ0.Fibers.map AV.i)), (31, .i (rZ0.Fibers.length : Int)), (32, .i v.2.1)], [(2, .var (.agg [.lst .o 1 (nZ0.Nodes.map AV.z), .lst .o 4 (nZ0.Fibers.map (e_TFiber .o))])), (6, .arr 1 (v.2.2.map AV.i))]⟩
def SX_impl_visitedL1 (v : List Int) : St := ⟨[(6, .sl 6 0 v.length)], [(6, .arr 1 (v.map AV.i))]⟩
theorem w_impl_visitedL1 (nZ0 : TNetwork) (rZ0 : TRoute) (sZ8 : Int × Int × List Int) (o : (Int × Int × List Int) ⊕ ((List Int) ⊕ (List Int × Bool))) (h : M_impl_visitedL1 nZ0 rZ0 sZ8 = some o) : AWP (OkS Tryz.prog) A135L3 (qL [2, 6, 7, 30, 31, 32] [2, 6] (S_impl_visitedL1 nZ0 rZ0) (qS (qX 0 [6] [6] (SX_impl_visitedL1)) (qR V135 (fun r => .tup [.lst .u 1 (r.1.map AV.i), .b r.2]))) o) (S_impl_visitedL1 nZ0 rZ0 sZ8) := by
  unfold M_impl_visitedL1 at h
  simp only [ZC, S_impl_visitedL1, A135L3]
  obtain ⟨cZ9, h⟩ | ⟨cZ9, h⟩ := cond_s h
  · obtain ⟨yZ10, hyZ10, h⟩ := bind_s h
    obtain ⟨hyZ10a, hyZ10b⟩ := geti_s hyZ10
    obtain ⟨rZ11, hrZ11, h⟩ := bind_s h
    refine ZF (ZA cZ9 (ZA hyZ10a hyZ10b)) ?_
    refine ZS (ZA cZ9 (ZA hyZ10a hyZ10b)) (w_impl_within _ _ _ hrZ11) ?_
    refine ZG ?_
    obtain ⟨cZ12, h⟩ | ⟨cZ12, h⟩ := cond_s h
    · cases h
      exact ZL (ZA cZ9 (ZA hyZ10a (ZA hyZ10b cZ12))) V135.eq_1
    · obtain ⟨yZ13, hyZ13, h⟩ := bind_s h
      obtain ⟨hyZ13a, hyZ13b⟩ := geti_s hyZ13
      obtain ⟨rZ14, hrZ14, h⟩ := bind_s h
      refine ZF (ZA cZ9 (ZA hyZ10a (ZA hyZ10b (ZA cZ12 (ZA hyZ13a hyZ13b))))) ?_
      refine ZS (ZA cZ9 (ZA hyZ10a (ZA hyZ10b (ZA cZ12 (ZA hyZ13a hyZ13b))))) (w_impl_otherEnd _ _ hrZ14) ?_
      refine ZG ?_
      obtain ⟨oZ17, hoZ17, h⟩ := bind_s h
      try refine ZF (ZA cZ9 (ZA hyZ10a (ZA hyZ10b (ZA cZ12 (ZA hyZ13a hyZ13b))))) ?_
      refine join_rule0 (sh := (fun v => ⟨[(2, .pt 2 0 0), (6, .sl 6 0 sZ8.2.2.length), (7, .i rZ14), (30, .lst .o 1 (rZ0.Fibers.map AV.i)), (31, .i (rZ0.Fibers.length : Int)), (32, .i sZ8.2.1), (56, .b v)], [(2, .var (.agg [.lst .o 1 (nZ0.Nodes.map AV.z), .lst .o 4 (nZ0.Fibers.map (e_TFiber .o))])), (6, .arr 1 (sZ8.2.2.map AV.i))]⟩)) (s := oZ17) ?_ ?_
      · replace h := hoZ17
        obtain ⟨cZ15, h⟩ | ⟨cZ15, h⟩ := cond_s h
        · cases h
          exact ZL (ZA cZ9 (ZA hyZ10a (ZA hyZ10b (ZA cZ12 (ZA hyZ13a (ZA hyZ13b cZ15)))))) trivial
        · obtain ⟨rZ16, hrZ16, h⟩ := bind_s h
          refine ZF (ZA cZ9 (ZA hyZ10a (ZA hyZ10b (ZA cZ12 (ZA hyZ13a (ZA hyZ13b cZ15)))))) ?_
          refine ZS (ZA cZ9 (ZA hyZ10a (ZA hyZ10b (ZA cZ12 (ZA hyZ13a (ZA hyZ13b cZ15)))))) (w_slices_Contains_Lint_int _ _ hrZ16) ?_
          refine ZG ?_
          cases h
          exact ZL (ZA cZ9 (ZA hyZ10a (ZA hyZ10b (ZA cZ12 (ZA hyZ13a (ZA hyZ13b cZ15)))))) trivial
      · simp only [ZC, A135R2]
        obtain ⟨cZ18, h⟩ | ⟨cZ18, h⟩ := cond_s h
        · cases h
          exact ZL (ZA cZ9 (ZA hyZ10a (ZA hyZ10b (ZA cZ12 (ZA hyZ13a (ZA hyZ13b cZ18)))))) V135.eq_1
        · obtain ⟨lZ19, hlZ19, h⟩ := bnd_s h
          have eZ20 : Row.arr 1 [(.i rZ14 : AV)] = Row.arr 1 (lZ19.map AV.i) := by rw [← hlZ19]; rfl
          have jjZ21 : lZ19.length = 1 := by rw [← hlZ19]; rfl
          obtain ⟨uZ22, huZ22, h⟩ := bind_s h
          have huZ22g := grd_s huZ22
          obtain ⟨lZ23, hlZ23, h⟩ := bnd_s h
          have eZ24 : sZ8.2.2.map AV.i ++ lZ19.map AV.i = lZ23.map AV.i := by rw [← hlZ23, List.map_append]
          have eZ25 : sZ8.2.2.length + 1 = lZ23.length := by simp [← hlZ19, ← hlZ23] <;> omega
          rw [eZ25] at huZ22g
          cases h
          exact ZL (ZA cZ9 (ZA hyZ10a (ZA hyZ10b (ZA cZ12 (ZA hyZ13a (ZA hyZ13b (ZA cZ18 (ZA eZ20 (ZA jjZ21 (ZA huZ22g (ZA eZ24 eZ25))))))))))) (ZA S_impl_visitedL1.eq_1 (ZA SX_impl_visitedL1.eq_1 (ZA hlZ19.symm (ZA hlZ23.symm jjZ21))))
  · cases h
    exact ZL cZ9 (ZA S_impl_visitedL1.eq_1 SX_impl_visitedL1.eq_1)
theorem w_impl_visited (nZ0 : TNetwork) (rZ0 : TRoute) {r : List Int × Bool} (h : M_impl_visited nZ0 rZ0 = some r) : Ok Tryz.prog 135 [.agg [.lst .o 1 (nZ0.Nodes.map AV.z), .lst .o 4 (nZ0.Fibers.map (e_TFiber .o))], .agg [.i rZ0.Start, .lst .o 1 (rZ0.Fibers.map AV.i)]] ((fun r => .tup [.lst .u 1 (r.1.map AV.i), .b r.2]) r) := by
  refine ok_of_body hmix m135 rfl ?_
  unfold M_impl_visited at h
  simp only [ZC, A135, V135, body_eq]
  obtain ⟨oZ3, hoZ3, h⟩ := bind_s h
  try refine ZF trivial ?_
  refine join_rule0 (sh := (fun v => ⟨[(2, .pt 2 0 0), (3, .pt 3 0 0), (23, .b v)], [(2, .var (.agg [.lst .o 1 (nZ0.Nodes.map AV.z), .lst .o 4 (nZ0.Fibers.map (e_TFiber .o))])), (3, .var (.agg [.i rZ0.Start, .lst .o 1 (rZ0.Fibers.map AV.i)]))]⟩)) (s := oZ3) ?_ ?_
  · replace h := hoZ3
    obtain ⟨rZ1, hrZ1, h⟩ := bind_s h
    refine ZF trivial ?_
    refine ZS trivial (w_impl_within _ _ _ hrZ1) ?_
    refine ZG ?_
    obtain ⟨cZ2, h⟩ | ⟨cZ2, h⟩ := cond_s h
    · cases h
      exact ZL cZ2 trivial
    · cases h
      exact ZL cZ2 trivial
  · simp only [ZC, A135R1]
    obtain ⟨cZ4, h⟩ | ⟨cZ4, h⟩ := cond_s h
    · cases h
      exact ZL cZ4 V135.eq_1
    · obtain ⟨lZ5, hlZ5, h⟩ := bnd_s h
      have eZ6 : Row.arr 1 [(.i rZ0.Start : AV)] = Row.arr 1 (lZ5.map AV.i) := by rw [← hlZ5]; rfl
      have jjZ7 : lZ5.length = 1 := by rw [← hlZ5]; rfl
      obtain ⟨oZ26, hoZ26, h⟩ := bind_s h
      try refine ZF (ZA cZ4 (ZA eZ6 jjZ7)) ?_
      refine join_rule (o := oZ26) (blk_rule sideR (loop_rule (w_impl_visitedL1 nZ0 rZ0) hoZ26 ?_)) (fun vZ27 hv => ?_) (fun xZ28 hv e τ hne hq => ?_)
      · exact ZK (ZA S_impl_visitedL1.eq_1 (ZA SX_impl_visitedL1.eq_1 (ZA hlZ5.symm jjZ7)))
      · subst hv
        simp only [] at h
        simp only [ZC, SX_impl_visitedL1, A135R4]
        cases h
        exact ZL (ZA cZ4 (ZA eZ6 jjZ7)) (ZA V135.eq_1 jjZ7)
      · subst hv
        simp only [] at h
        obtain ⟨rfl, qZ29⟩ := hq
        cases h
        exact qZ29
theorem w_impl_IsValidBlock (bZ0 : TBlock) {r : Bool} (h : M_impl_IsValidBlock bZ0 = some r) : Ok Tryz.prog 183 [.agg [.i bZ0.First, .i bZ0.Count]] ((fun r => .b r) r) := by
  refine ok_of_body hmix m183 rfl ?_
  unfold M_impl_IsValidBlock at h
  simp only [ZC, A183, V183, body_eq]
  obtain ⟨cZ1, h⟩ | ⟨cZ1, h⟩ := cond_s h
  · obtain ⟨rZ2, hrZ2, h⟩ := bind_s h
    refine ZF cZ1 ?_
    refine ZS cZ1 (w_impl_within _ _ _ hrZ2) ?_
    refine ZG ?_
    obtain ⟨cZ3, h⟩ | ⟨cZ3, h⟩ := cond_s h
    · cases h
      exact ZL (ZA cZ1 cZ3) V183.eq_1
    · cases h
      exact ZL (ZA cZ1 cZ3) V183.eq_1
  · cases h
    exact ZL cZ1 V183.eq_1
theorem w_impl_isLight (nZ0 : TNetwork) (xZ0 : TLight) {r : Bool} (h : M_impl_isLight nZ0 xZ0 = some r) : Ok Tryz.prog 129 [.agg [.lst .o 1 (nZ0.Nodes.map AV.z), .lst .o 4 (nZ0.Fibers.map (e_TFiber .o))], .agg [.i xZ0.Id, .i xZ0.Route.Start, .lst .o 1 (xZ0.Route.Fibers.map AV.i), .i xZ0.Block.First, .i xZ0.Block.Count]] ((fun r => .b r) r) := by
  refine ok_of_body hmix m129 rfl ?_
  unfold M_impl_isLight at h
  simp only [ZC, A129, V129, body_eq]
  obtain ⟨rZ1, hrZ1, h⟩ := bind_s h
  refine ZF trivial ?_
  refine ZU trivial (w_impl_visited _ _ hrZ1) ?_
  refine ZG ?_
  obtain ⟨cZ2, h⟩ | ⟨cZ2, h⟩ := cond_s h
  · obtain ⟨rZ3, hrZ3, h⟩ := bind_s h
    refine ZF cZ2 ?_
    refine ZS cZ2 (w_impl_within _ _ _ hrZ3) ?_
    refine ZG ?_
    obtain ⟨cZ4, h⟩ | ⟨cZ4, h⟩ := cond_s h
    · obtain ⟨rZ5, hrZ5, h⟩ := bind_s h
      refine ZF (ZA cZ2 cZ4) ?_
      refine ZS (ZA cZ2 cZ4) (w_impl_IsValidBlock _ hrZ5) ?_
      refine ZG ?_
      cases h
      exact ZL (ZA cZ2 cZ4) V129.eq_1
    · cases h
      exact ZL (ZA cZ2 cZ4) V129.eq_1
  · cases h
    exact ZL cZ2 V129.eq_1
theorem w_impl_maskOf (bZ0 : TBlock) {r : Int} (h : M_impl_maskOf bZ0 = some r) : Ok Tryz.prog 184 [.agg [.i bZ0.First, .i bZ0.Count]] ((fun r => .i r) r) := by
  refine ok_of_body hmix m184 rfl ?_
  unfold M_impl_maskOf at h
  simp only [ZC, A184, V184, body_eq]
  obtain ⟨uZ1, huZ1, h⟩ := bind_s h
  have huZ1g := grd_s huZ1
  obtain ⟨uZ2, huZ2, h⟩ := bind_s h
  have huZ2g := grd_s huZ2
  cases h
  exact ZL (ZA huZ1g huZ2g) V184.eq_1
theorem w_math_bits_Len64 (xZ0 : Int) {r : Int} (h : M_math_bits_Len64 xZ0 = some r) : Ok Tryz.prog 211 [.sc (.int .u64 xZ0)] ((fun r => .i r) r) := by
  refine ok_of_body hmix m211 rfl ?_
  unfold M_math_bits_Len64 at h
  simp only [ZC, A211, V211, body_eq]
  obtain ⟨oZ2, hoZ2, h⟩ := bind_s h
  try refine ZF trivial ?_
  refine join_rule0 (sh := (fun v => ⟨[(0, .sc (.int .u64 v.1)), (2, .i v.2)], []⟩)) (s := oZ2) ?_ ?_
  · replace h := hoZ2
    obtain ⟨cZ1, h⟩ | ⟨cZ1, h⟩ := cond_s h
    · cases h
      exact ZL cZ1 trivial
    · cases h
      exact ZL cZ1 trivial
  · simp only [ZC, A211R1]
    obtain ⟨oZ4, hoZ4, h⟩ := bind_s h
    try refine ZF trivial ?_
    refine join_rule0 (sh := (fun v => ⟨[(0, .sc (.int .u64 v.1)), (2, .i v.2)], []⟩)) (s := oZ4) ?_ ?_
    · replace h := hoZ4
      obtain ⟨cZ3, h⟩ | ⟨cZ3, h⟩ := cond_s h
      · cases h
        exact ZL cZ3 trivial
      · cases h
        exact ZL cZ3 trivial
    · simp only [ZC, A211R2]
      obtain ⟨oZ6, hoZ6, h⟩ := bind_s h
      try refine ZF trivial ?_
      refine join_rule0 (sh := (fun v => ⟨[(0, .sc (.int .u64 v.1)), (2, .i v.2)], []⟩)) (s := oZ6) ?_ ?_
      · replace h := hoZ6
        obtain ⟨cZ5, h⟩ | ⟨cZ5, h⟩ := cond_s h
        · cases h
          exact ZL cZ5 trivial
        · cases h
          exact ZL cZ5 trivial
      · simp only [ZC, A211R3]
        obtain ⟨yZ7, hyZ7, h⟩ := bind_s h
        obtain ⟨hyZ7a, hyZ7b⟩ := getz_s hyZ7
        cases h
        exact ZL (ZA hyZ7a hyZ7b) V211.eq_1
theorem w_math_bits_Len (xZ0 : Int) {r : Int} (h : M_math_bits_Len xZ0 = some r) : Ok Tryz.prog 172 [.sc (.int .u64 xZ0)] ((fun r => .i r) r) := by
  refine ok_of_body hmix m172 rfl ?_
  unfold M_math_bits_Len at h
  simp only [ZC, A172, V172, body_eq]
  obtain ⟨rZ1, hrZ1, h⟩ := bind_s h
  refine ZF trivial ?_
  refine ZS trivial (w_math_bits_Len64 _ hrZ1) ?_
  refine ZG ?_
  cases h
  exact ZL trivial V172.eq_1
theorem w_cmp_Less_int (xZ0 : Int) (yZ0 : Int) {r : Bool} (h : M_cmp_Less_int xZ0 yZ0 = some r) : Ok Tryz.prog 207 [.i xZ0, .i yZ0] ((fun r => .b r) r) := by
  refine ok_of_body hmix m207 rfl ?_
  unfold M_cmp_Less_int at h
  simp only [ZC, A207, V207, body_eq]
  obtain ⟨rZ1, hrZ1, h⟩ := bind_s h
  refine ZF trivial ?_
  refine ZS trivial (w_cmp_isNaN_int _ hrZ1) ?_
  refine ZG ?_
  obtain ⟨cZ2, h⟩ | ⟨cZ2, h⟩ := cond_s h
  · obtain ⟨rZ3, hrZ3, h⟩ := bind_s h
    refine ZF cZ2 ?_
    refine ZS cZ2 (w_cmp_isNaN_int _ hrZ3) ?_
    refine ZG ?_
    obtain ⟨cZ4, h⟩ | ⟨cZ4, h⟩ := cond_s h
    · cases h
      exact ZL (ZA cZ2 cZ4) V207.eq_1
    · cases h
      exact ZL (ZA cZ2 cZ4) V207.eq_1
  · cases h
    exact ZL cZ2 V207.eq_1
def S_slices_insertionSortOrdered_intM1L2 (aaZ0 : Int) (abZ0 : Int) (sZ1 : Int × List Int) (v : Int × List Int) : St := ⟨[(0, .sl 1000000000 0 v.2.length), (1, .i aaZ0), (2, .i abZ0), (6, .i sZ1.1), (7, .i v.1)], [(1000000000, .arr 1 (v.2.map AV.i))]⟩
def SX_slices_insertionSortOrdered_intM1L2 (aaZ0 : Int) (abZ0 : Int) (sZ1 : Int × List Int) (v : List Int) : St := ⟨[(0, .sl 1000000000 0 v.length), (1, .i aaZ0), (2, .i abZ0), (6, .i sZ1.1)], [(1000000000, .arr 1 (v.map AV.i))]⟩
theorem w_slices_insertionSortOrdered_intM1L2 (aaZ0 : Int) (abZ0 : Int) (sZ1 : Int × List Int) (sZ3 : Int × List Int) (o : (Int × List Int) ⊕ (List Int)) (h : M_slices_insertionSortOrdered_intM1L2 aaZ0 sZ3 = some o) : AWP (OkS Tryz.prog) A201M1L2 (qL [0, 1, 2, 6, 7] [1000000000] (S_slices_insertionSortOrdered_intM1L2 aaZ0 abZ0 sZ1) (qX 2 [0, 1, 2, 6] [1000000000] (SX_slices_insertionSortOrdered_intM1L2 aaZ0 abZ0 sZ1)) o) (S_slices_insertionSortOrdered_intM1L2 aaZ0 abZ0 sZ1 sZ3) := by
  unfold M_slices_insertionSortOrdered_intM1L2 at h
  simp only [ZC, S_slices_insertionSortOrdered_intM1L2, A201M1L2]
  obtain ⟨oZ10, hoZ10, h⟩ := bind_s h
  try refine ZF trivial ?_
  refine join_rule0 (sh := (fun v => ⟨[(0, .sl 1000000000 0 sZ3.2.length), (1, .i aaZ0), (2, .i abZ0), (6, .i sZ1.1), (7, .i sZ3.1), (30, .b v)], [(1000000000, .arr 1 (sZ3.2.map AV.i))]⟩)) (s := oZ10) ?_ ?_
  · replace h := hoZ10
    obtain ⟨cZ4, h⟩ | ⟨cZ4, h⟩ := cond_s h
    · obtain ⟨kZ5, hkZ5, h⟩ := bind_s h
      obtain ⟨hkZ5a, hkZ5b⟩ := grd_s hkZ5
      obtain ⟨yZ6, hyZ6, h⟩ := bind_s h
      obtain ⟨kZ7, hkZ7, h⟩ := bind_s h
      obtain ⟨hkZ7a, hkZ7b⟩ := grd_s hkZ7
      obtain ⟨yZ8, hyZ8, h⟩ := bind_s h
      obtain ⟨rZ9, hrZ9, h⟩ := bind_s h
      refine ZF (ZA cZ4 (ZA hkZ5a (ZA hkZ5b (ZA hyZ6 (ZA hkZ7a (ZA hkZ7b hyZ8)))))) ?_
      refine ZS (ZA cZ4 (ZA hkZ5a (ZA hkZ5b (ZA hyZ6 (ZA hkZ7a (ZA hkZ7b hyZ8)))))) (w_cmp_Less_int _ _ hrZ9) ?_
      refine ZG ?_
      cases h
      exact ZL (ZA cZ4 (ZA hkZ5a (ZA hkZ5b (ZA hyZ6 (ZA hkZ7a (ZA hkZ7b hyZ8)))))) trivial
    · cases h
      exact ZL cZ4 trivial
  · simp only [ZC, A201M1R1]
    obtain ⟨cZ11, h⟩ | ⟨cZ11, h⟩ := cond_s h
    · obtain ⟨kZ12, hkZ12, h⟩ := bind_s h
      obtain ⟨hkZ12a, hkZ12b⟩ := grd_s hkZ12
      obtain ⟨yZ13, hyZ13, h⟩ := bind_s h
      obtain ⟨kZ14, hkZ14, h⟩ := bind_s h
      obtain ⟨hkZ14a, hkZ14b⟩ := grd_s hkZ14
      obtain ⟨yZ15, hyZ15, h⟩ := bind_s h
      obtain ⟨lZ16, hlZ16, h⟩ := bnd_s h
      have eZ17 : (sZ3.2.map AV.i).set (Int.toNat sZ3.1) (.i yZ13) = lZ16.map AV.i := by rw [← hlZ16, List.map_set]
      obtain ⟨yZ18, hyZ18, h⟩ := bind_s h
      obtain ⟨lZ19, hlZ19, h⟩ := bnd_s h
      have eZ20 : (lZ16.map AV.i).set (Int.toNat (IntKind.wrap .i64 (sZ3.1 - 1))) (.i yZ15) = lZ19.map AV.i := by rw [← hlZ19, List.map_set]
      cases h
      exact ZL (ZA cZ11 (ZA hkZ12a (ZA hkZ12b (ZA hyZ13 (ZA hkZ14a (ZA hkZ14b (ZA hyZ15 (ZA eZ17 (ZA hyZ18 eZ20))))))))) (ZA S_slices_insertionSortOrdered_intM1L2.eq_1 (ZA SX_slices_insertionSortOrdered_intM1L2.eq_1 (ZA hlZ16.symm hlZ19.symm)))
    · cases h
      exact ZL cZ11 (ZA S_slices_insertionSortOrdered_intM1L2.eq_1 SX_slices_insertionSortOrdered_intM1L2.eq_1)
def S_slices_insertionSortOrdered_intM1L1 (aaZ0 : Int) (abZ0 : Int) (v : Int × List Int) : St := ⟨[(0, .sl 1000000000 0 v.2.length), (1, .i aaZ0), (2, .i abZ0), (6, .i v.1)], [(1000000000, .arr 1 (v.2.map AV.i))]⟩
def SX_slices_insertionSortOrdered_intM1L1 (v : List Int) : St := ⟨[], [(1000000000, .arr 1 (v.map AV.i))]⟩
theorem w_slices_insertionSortOrdered_intM1L1 (aaZ0 : Int) (abZ0 : Int) (sZ1 : Int × List Int) (o : (Int × List Int) ⊕ (List Int)) (h : M_slices_insertionSortOrdered_intM1L1 aaZ0 abZ0 sZ1 = some o) : AWP (OkS Tryz.prog) A201M1L4 (qL [0, 1, 2, 6] [1000000000] (S_slices_insertionSortOrdered_intM1L1 aaZ0 abZ0) (qX 0 [] [1000000000] (SX_slices_insertionSortOrdered_intM1L1)) o) (S_slices_insertionSortOrdered_intM1L1 aaZ0 abZ0 sZ1) := by
  unfold M_slices_insertionSortOrdered_intM1L1 at h
  simp only [ZC, S_slices_insertionSortOrdered_intM1L1, A201M1L4]
  obtain ⟨cZ2, h⟩ | ⟨cZ2, h⟩ := cond_s h
  · obtain ⟨oZ23, hoZ23, h⟩ := bind_s h
    try refine ZF cZ2 ?_
    refine join_rule0 (sh := (fun v => ⟨[(0, .sl 1000000000 0 v.length), (1, .i aaZ0), (2, .i abZ0), (6, .i sZ1.1)], [(1000000000, .arr 1 (v.map AV.i))]⟩)) (s := oZ23) ?_ ?_
    · replace h := hoZ23
      obtain ⟨oZ21, hoZ21, h⟩ := bind_s h
      try refine ZF cZ2 ?_
      first | refine tail_rule0 (blk_rule0 (loop_rule (w_slices_insertionSortOrdered_intM1L2 aaZ0 abZ0 sZ1) hoZ21 ?_)) (fun τ qZ22 => ?_) | refine tail_blk0 (loop_rule (w_slices_insertionSortOrdered_intM1L2 aaZ0 abZ0 sZ1) hoZ21 ?_) (fun τ qZ22 => ?_)
      · exact ZK (ZA S_slices_insertionSortOrdered_intM1L2.eq_1 SX_slices_insertionSortOrdered_intM1L2.eq_1)
      · cases h
        try refine ZF trivial ?_
        refine ⟨rfl, Shp.sub qZ22 (by decide) (by decide) ?_⟩
        exact ZK SX_slices_insertionSortOrdered_intM1L2.eq_1
    · simp only [ZC, A201M1R3]
      cases h
      exact ZL cZ2 (ZA S_slices_insertionSortOrdered_intM1L1.eq_1 SX_slices_insertionSortOrdered_intM1L1.eq_1)
  · cases h
    exact ZL cZ2 (ZA S_slices_insertionSortOrdered_intM1L1.eq_1 SX_slices_insertionSortOrdered_intM1L1.eq_1)
theorem w_slices_insertionSortOrdered_intM1 (aaZ0 : Int) (abZ0 : Int) (acZ0 : List Int) {r : List Int} (h : M_slices_insertionSortOrdered_intM1 aaZ0 abZ0 acZ0 = some r) : OkM Tryz.prog 201 [.sl 1000000000 0 acZ0.length, .i aaZ0, .i abZ0] [(1000000000, .arr 1 (acZ0.map AV.i))] ((fun (r : List Int) => .tup []) r) ((fun (r : List Int) => [(1000000000, .arr 1 (r.map AV.i))]) r) := by
  refine okM_of_body (lr := [1000000000]) hmix m201M1 rfl rfl ?_
  unfold M_slices_insertionSortOrdered_intM1 at h
  simp only [ZC, A201M1, V201M1]
  obtain ⟨oZ24, hoZ24, h⟩ := bind_s h
  try refine ZF trivial ?_
  first | refine tail_rule0 (blk_rule0 (loop_rule (w_slices_insertionSortOrdered_intM1L1 aaZ0 abZ0) hoZ24 ?_)) (fun τ qZ25 => ?_) | refine tail_blk0 (loop_rule (w_slices_insertionSortOrdered_intM1L1 aaZ0 abZ0) hoZ24 ?_) (fun τ qZ25 => ?_)
  · exact ZK (ZA S_slices_insertionSortOrdered_intM1L1.eq_1 SX_slices_insertionSortOrdered_intM1L1.eq_1)
  · cases h
    refine finM_shp qZ25 (by decide) ?_ rfl
    exact ZK (ZA V201M1.eq_1 SX_slices_insertionSortOrdered_intM1L1.eq_1)
def S_slices_pdqsortOrdered_intM1L1 (aaZ0 : Int) (abZ0 : Int) (acZ0 : Int) (adZ0 : List Int) (v : Unit) : St := ⟨[(0, .sl 1000000000 0 adZ0.length), (1, .i aaZ0), (2, .i abZ0), (3, .i acZ0), (8, .b true), (9, .b true)], [(1000000000, .arr 1 (adZ0.map AV.i))]⟩
def SX_slices_pdqsortOrdered_intM1L1 (v : Empty) : St := ⟨[], []⟩
theorem w_slices_pdqsortOrdered_intM1L1 (aaZ0 : Int) (abZ0 : Int) (acZ0 : Int) (adZ0 : List Int) (sZ1 : Unit) (o : Unit ⊕ (Empty ⊕ (List Int))) (h : M_slices_pdqsortOrdered_intM1L1 aaZ0 abZ0 acZ0 adZ0 sZ1 = some o) : AWP (OkS Tryz.prog) A171M1L1 (qL [0, 1, 2, 3, 8, 9] [1000000000] (S_slices_pdqsortOrdered_intM1L1 aaZ0 abZ0 acZ0 adZ0) (qS (qX 0 [] [] (SX_slices_pdqsortOrdered_intM1L1)) (qM V171M1 [1000000000] (fun (r : List Int) => .tup []) (fun (r : List Int) => [(1000000000, .arr 1 (r.map AV.i))]))) o) (S_slices_pdqsortOrdered_intM1L1 aaZ0 abZ0 acZ0 adZ0 sZ1) := by
  unfold M_slices_pdqsortOrdered_intM1L1 at h
  simp only [ZC, S_slices_pdqsortOrdered_intM1L1, A171M1L1]
  obtain ⟨cZ2, h⟩ | ⟨cZ2, h⟩ := cond_s h
  · obtain ⟨rZ3, hrZ3, h⟩ := bind_s h
    refine ZF cZ2 ?_
    refine ZW cZ2 (w_slices_insertionSortOrdered_intM1 _ _ _ hrZ3) (h2 := by first | exact nm_ok [1000000000] rfl (by decide +kernel) | exact nm_ok2 [1000000000] [] rfl (by decide +kernel) ZQ | exact ZQ) (hk := ?_)
    refine ZG ?_
    cases h
    exact ZL cZ2 V171M1.eq_1
  · obtain ⟨cZ4, h⟩ | ⟨cZ4, h⟩ := cond_s h
    · cases h
    · cases h
theorem w_slices_pdqsortOrdered_intM1 (aaZ0 : Int) (abZ0 : Int) (acZ0 : Int) (adZ0 : List Int) {r : List Int} (h : M_slices_pdqsortOrdered_intM1 aaZ0 abZ0 acZ0 adZ0 = some r) : OkM Tryz.prog 171 [.sl 1000000000 0 adZ0.length, .i aaZ0, .i abZ0, .i acZ0] [(1000000000, .arr 1 (adZ0.map AV.i))] ((fun (r : List Int) => .tup []) r) ((fun (r : List Int) => [(1000000000, .arr 1 (r.map AV.i))]) r) := by
  refine okM_of_body (lr := [1000000000]) hmix m171M1 rfl rfl ?_
  unfold M_slices_pdqsortOrdered_intM1 at h
  simp only [ZC, A171M1, V171M1]
  obtain ⟨oZ5, hoZ5, h⟩ := bind_s h
  try refine ZF trivial ?_
  first | refine tail_rule (o := oZ5) (blk_rule sideM (loop_rule (w_slices_pdqsortOrdered_intM1L1 aaZ0 abZ0 acZ0 adZ0) hoZ5 ?_)) (fun vZ6 hv τ qZ8 => ?_) (fun xZ7 hv e τ hne hq => ?_) | refine tail_blk (o := oZ5) sideM (loop_rule (w_slices_pdqsortOrdered_intM1L1 aaZ0 abZ0 acZ0 adZ0) hoZ5 ?_) (fun vZ6 hv τ qZ8 => ?_) (fun xZ7 hv e τ hne hq => ?_)
  · exact ZK (ZA S_slices_pdqsortOrdered_intM1L1.eq_1 SX_slices_pdqsortOrdered_intM1L1.eq_1)
  · exact vZ6.elim
  · subst hv
    simp only [] at h
    obtain ⟨rfl, qZ9⟩ := hq
    cases h
    exact qZ9
theorem w_slices_Sort_Lint_intM1 (aaZ0 : List Int) {r : List Int} (h : M_slices_Sort_Lint_intM1 aaZ0 = some r) : OkM Tryz.prog 111 [.sl 1000000000 0 aaZ0.length] [(1000000000, .arr 1 (aaZ0.map AV.i))] ((fun (r : List Int) => .tup []) r) ((fun (r : List Int) => [(1000000000, .arr 1 (r.map AV.i))]) r) := by
  refine okM_of_body (lr := [1000000000]) hmix m111M1 rfl rfl ?_
  unfold M_slices_Sort_Lint_intM1 at h
  simp only [ZC, A111M1, V111M1]
  obtain ⟨rZ1, hrZ1, h⟩ := bind_s h
  refine ZF trivial ?_
  refine ZS trivial (w_math_bits_Len _ hrZ1) ?_
  refine ZG ?_
  obtain ⟨rZ2, hrZ2, h⟩ := bind_s h
  refine ZF trivial ?_
  refine ZW trivial (w_slices_pdqsortOrdered_intM1 _ _ _ _ hrZ2) (h2 := by first | exact nm_ok [1000000000] rfl (by decide +kernel) | exact nm_ok2 [1000000000] [] rfl (by decide +kernel) ZQ | exact ZQ) (hk := ?_)
  refine ZG ?_
  cases h
  exact ZL trivial V111M1.eq_1
def S_slices_Compact_Lint_intM1L2 (aaZ0 : Nat) (abZ0 : Nat) (sZ2 : Int) (v : Int × Int × List Int) : St := ⟨[(0, .sl 1000000000 aaZ0 abZ0), (3, .i v.1), (4, .sl 1000000000 (aaZ0 + (Int.toNat sZ2)) (abZ0 - (Int.toNat sZ2))), (5, .i v.2.1)], [(1000000000, .arr 1 (v.2.2.map AV.i))]⟩
def SX_slices_Compact_Lint_intM1L2 (aaZ0 : Nat) (abZ0 : Nat) (v : Int × List Int) : St := ⟨[(0, .sl 1000000000 aaZ0 abZ0), (3, .i v.1)], [(1000000000, .arr 1 (v.2.map AV.i))]⟩
theorem w_slices_Compact_Lint_intM1L2 (aaZ0 : Nat) (abZ0 : Nat) (sZ2 : Int) (sZ10 : Int × Int × List Int) (o : (Int × Int × List Int) ⊕ (Int × List Int)) (h : M_slices_Compact_Lint_intM1L2 aaZ0 abZ0 sZ2 sZ10 = some o) : AWP (OkS Tryz.prog) A112M1L1 (qL [0, 3, 4, 5] [1000000000] (S_slices_Compact_Lint_intM1L2 aaZ0 abZ0 sZ2) (qX 2 [0, 3] [1000000000] (SX_slices_Compact_Lint_intM1L2 aaZ0 abZ0)) o) (S_slices_Compact_Lint_intM1L2 aaZ0 abZ0 sZ2 sZ10) := by
  unfold M_slices_Compact_Lint_intM1L2 at h
  simp only [ZC, S_slices_Compact_Lint_intM1L2, A112M1L1]
  obtain ⟨cZ11, h⟩ | ⟨cZ11, h⟩ := cond_s h
  · obtain ⟨kZ12, hkZ12, h⟩ := bind_s h
    obtain ⟨hkZ12a, hkZ12b⟩ := grd_s hkZ12
    obtain ⟨yZ13, hyZ13, h⟩ := bind_s h
    obtain ⟨kZ14, hkZ14, h⟩ := bind_s h
    obtain ⟨hkZ14a, hkZ14b⟩ := grd_s hkZ14
    obtain ⟨yZ15, hyZ15, h⟩ := bind_s h
    obtain ⟨cZ16, h⟩ | ⟨cZ16, h⟩ := cond_s h
    · obtain ⟨kZ17, hkZ17, h⟩ := bind_s h
      obtain ⟨hkZ17a, hkZ17b⟩ := grd_s hkZ17
      obtain ⟨yZ18, hyZ18, h⟩ := bind_s h
      obtain ⟨lZ19, hlZ19, h⟩ := bnd_s h
      have eZ20 : (sZ10.2.2.map AV.i).set (aaZ0 + (Int.toNat sZ10.1)) (.i yZ13) = lZ19.map AV.i := by rw [← hlZ19, List.map_set]
      cases h
      exact ZL (ZA cZ11 (ZA hkZ12a (ZA hkZ12b (ZA hyZ13 (ZA hkZ14a (ZA hkZ14b (ZA hyZ15 (ZA cZ16 (ZA hkZ17a (ZA hkZ17b (ZA hyZ18 eZ20))))))))))) (ZA S_slices_Compact_Lint_intM1L2.eq_1 (ZA SX_slices_Compact_Lint_intM1L2.eq_1 hlZ19.symm))
    · cases h
      exact ZL (ZA cZ11 (ZA hkZ12a (ZA hkZ12b (ZA hyZ13 (ZA hkZ14a (ZA hkZ14b (ZA hyZ15 cZ16))))))) (ZA S_slices_Compact_Lint_intM1L2.eq_1 SX_slices_Compact_Lint_intM1L2.eq_1)
  · cases h
    exact ZL cZ11 (ZA S_slices_Compact_Lint_intM1L2.eq_1 SX_slices_Compact_Lint_intM1L2.eq_1)
def S_slices_Compact_Lint_intM1L1 (aaZ0 : Nat) (abZ0 : Nat) (acZ0 : List Int) (v : Int) : St := ⟨[(0, .sl 1000000000 aaZ0 abZ0), (3, .i v)], [(1000000000, .arr 1 (acZ0.map AV.i))]⟩
def SX_slices_Compact_Lint_intM1L1 (aaZ0 : Nat) (abZ0 : Nat) (acZ0 : List Int) (v : Unit) : St := ⟨[(0, .sl 1000000000 aaZ0 abZ0)], [(1000000000, .arr 1 (acZ0.map AV.i))]⟩
theorem w_slices_Compact_Lint_intM1L1 (aaZ0 : Nat) (abZ0 : Nat) (acZ0 : List Int) (sZ2 : Int) (o : Int ⊕ (Unit ⊕ (Nat × Nat × List Int))) (h : M_slices_Compact_Lint_intM1L1 aaZ0 abZ0 acZ0 sZ2 = some o) : AWP (OkS Tryz.prog) A112M1L3 (qL [0, 3] [1000000000] (S_slices_Compact_Lint_intM1L1 aaZ0 abZ0 acZ0) (qS (qX 0 [0] [1000000000] (SX_slices_Compact_Lint_intM1L1 aaZ0 abZ0 acZ0)) (qM V112M1 [1000000000] (fun (r : Nat × Nat × List Int) => .sl 1000000000 r.1 r.2.1) (fun (r : Nat × Nat × List Int) => [(1000000000, .arr 1 (r.2.2.map AV.i))]))) o) (S_slices_Compact_Lint_intM1L1 aaZ0 abZ0 acZ0 sZ2) := by
  unfold M_slices_Compact_Lint_intM1L1 at h
  simp only [ZC, S_slices_Compact_Lint_intM1L1, A112M1L3]
  obtain ⟨cZ3, h⟩ | ⟨cZ3, h⟩ := cond_s h
  · obtain ⟨kZ4, hkZ4, h⟩ := bind_s h
    obtain ⟨hkZ4a, hkZ4b⟩ := grd_s hkZ4
    obtain ⟨yZ5, hyZ5, h⟩ := bind_s h
    obtain ⟨kZ6, hkZ6, h⟩ := bind_s h
    obtain ⟨hkZ6a, hkZ6b⟩ := grd_s hkZ6
    obtain ⟨yZ7, hyZ7, h⟩ := bind_s h
    obtain ⟨cZ8, h⟩ | ⟨cZ8, h⟩ := cond_s h
    · obtain ⟨uZ9, huZ9, h⟩ := bind_s h
      obtain ⟨huZ9a, huZ9b, huZ9c, huZ9d⟩ := grd_s huZ9
      obtain ⟨oZ21, hoZ21, h⟩ := bind_s h
      try refine ZF (ZA cZ3 (ZA hkZ4a (ZA hkZ4b (ZA hyZ5 (ZA hkZ6a (ZA hkZ6b (ZA hyZ7 (ZA cZ8 (ZA huZ9a (ZA huZ9b (ZA huZ9c huZ9d))))))))))) ?_
      refine join_rule0 (blk_rule0 (loop_rule (w_slices_Compact_Lint_intM1L2 aaZ0 abZ0 sZ2) hoZ21 ?_)) ?_
      · exact ZK (ZA S_slices_Compact_Lint_intM1L2.eq_1 SX_slices_Compact_Lint_intM1L2.eq_1)
      · simp only [ZC, SX_slices_Compact_Lint_intM1L2, A112M1R2]
        obtain ⟨uZ22, huZ22, h⟩ := bind_s h
        obtain ⟨huZ22a, huZ22b, huZ22c, huZ22d⟩ := grd_s huZ22
        obtain ⟨lZ23, hlZ23, h⟩ := bnd_s h
        have eZ24 : over (oZ21.2.map AV.i) (aaZ0 + (Int.toNat oZ21.1)) (List.replicate (abZ0 - (Int.toNat oZ21.1)) (.i 0 : AV)) = lZ23.map AV.i := by rw [← hlZ23, ← over_map]; simp [List.map_take]
        obtain ⟨uZ25, huZ25, h⟩ := bind_s h
        obtain ⟨huZ25a, huZ25b, huZ25c, huZ25d⟩ := grd_s huZ25
        cases h
        exact ZL (ZA cZ3 (ZA hkZ4a (ZA hkZ4b (ZA hyZ5 (ZA hkZ6a (ZA hkZ6b (ZA hyZ7 (ZA cZ8 (ZA huZ9a (ZA huZ9b (ZA huZ9c (ZA huZ9d (ZA huZ22a (ZA huZ22b (ZA huZ22c (ZA huZ22d (ZA eZ24 (ZA huZ25a (ZA huZ25b (ZA huZ25c huZ25d)))))))))))))))))))) (ZA V112M1.eq_1 (ZA hlZ23.symm @over_length))
    · cases h
      exact ZL (ZA cZ3 (ZA hkZ4a (ZA hkZ4b (ZA hyZ5 (ZA hkZ6a (ZA hkZ6b (ZA hyZ7 cZ8))))))) (ZA S_slices_Compact_Lint_intM1L1.eq_1 SX_slices_Compact_Lint_intM1L1.eq_1)
  · cases h
    exact ZL cZ3 (ZA S_slices_Compact_Lint_intM1L1.eq_1 SX_slices_Compact_Lint_intM1L1.eq_1)
theorem w_slices_Compact_Lint_intM1 (aaZ0 : Nat) (abZ0 : Nat) (acZ0 : List Int) {r : Nat × Nat × List Int} (h : M_slices_Compact_Lint_intM1 aaZ0 abZ0 acZ0 = some r) : OkM Tryz.prog 112 [.sl 1000000000 aaZ0 abZ0] [(1000000000, .arr 1 (acZ0.map AV.i))] ((fun (r : Nat × Nat × List Int) => .sl 1000000000 r.1 r.2.1) r) ((fun (r : Nat × Nat × List Int) => [(1000000000, .arr 1 (r.2.2.map AV.i))]) r) := by
  refine okM_of_body (lr := [1000000000]) hmix m112M1 rfl rfl ?_
  unfold M_slices_Compact_Lint_intM1 at h
  simp only [ZC, A112M1, V112M1]
  obtain ⟨cZ1, h⟩ | ⟨cZ1, h⟩ := cond_s h
  · cases h
    exact ZL cZ1 V112M1.eq_1
  · obtain ⟨oZ26, hoZ26, h⟩ := bind_s h
    try refine ZF cZ1 ?_
    refine join_rule (o := oZ26) (blk_rule sideM (loop_rule (w_slices_Compact_Lint_intM1L1 aaZ0 abZ0 acZ0) hoZ26 ?_)) (fun vZ27 hv => ?_) (fun xZ28 hv e τ hne hq => ?_)
    · exact ZK (ZA S_slices_Compact_Lint_intM1L1.eq_1 SX_slices_Compact_Lint_intM1L1.eq_1)
    · subst hv
      simp only [] at h
      simp only [ZC, SX_slices_Compact_Lint_intM1L1, A112M1R4]
      cases h
      exact ZL cZ1 V112M1.eq_1
    · subst hv
      simp only [] at h
      obtain ⟨rfl, qZ29⟩ := hq
      cases h
      exact qZ29
def S_impl_commonL1 (aZ0 : List Int) (bZ0 : List Int) (v : Int × List Int) : St := ⟨[(1, .lst .o 1 (bZ0.map AV.i)), (5, .sl 5 0 v.2.length), (9, .lst .o 1 (aZ0.map AV.i)), (10, .i (aZ0.length : Int)), (11, .i v.1)], [(5, .arr 1 (v.2.map AV.i))]⟩
def SX_impl_commonL1 (v : List Int) : St := ⟨[(5, .sl 5 0 v.length)], [(5, .arr 1 (v.map AV.i))]⟩
theorem w_impl_commonL1 (aZ0 : List Int) (bZ0 : List Int) (sZ1 : Int × List Int) (o : (Int × List Int) ⊕ (List Int)) (h : M_impl_commonL1 aZ0 bZ0 sZ1 = some o) : AWP (OkS Tryz.prog) A68L1 (qL [1, 5, 9, 10, 11] [5] (S_impl_commonL1 aZ0 bZ0) (qX 0 [5] [5] (SX_impl_commonL1)) o) (S_impl_commonL1 aZ0 bZ0 sZ1) := by
  unfold M_impl_commonL1 at h
  simp only [ZC, S_impl_commonL1, A68L1]
  obtain ⟨cZ2, h⟩ | ⟨cZ2, h⟩ := cond_s h
  · obtain ⟨yZ3, hyZ3, h⟩ := bind_s h
    obtain ⟨hyZ3a, hyZ3b⟩ := geti_s hyZ3
    obtain ⟨rZ4, hrZ4, h⟩ := bind_s h
    refine ZF (ZA cZ2 (ZA hyZ3a hyZ3b)) ?_
    refine ZS (ZA cZ2 (ZA hyZ3a hyZ3b)) (w_slices_Contains_Lint_int _ _ hrZ4) ?_
    refine ZG ?_
    obtain ⟨cZ5, h⟩ | ⟨cZ5, h⟩ := cond_s h
    · obtain ⟨lZ6, hlZ6, h⟩ := bnd_s h
      have eZ7 : Row.arr 1 [(.i yZ3 : AV)] = Row.arr 1 (lZ6.map AV.i) := by rw [← hlZ6]; rfl
      have jjZ8 : lZ6.length = 1 := by rw [← hlZ6]; rfl
      obtain ⟨uZ9, huZ9, h⟩ := bind_s h
      have huZ9g := grd_s huZ9
      obtain ⟨lZ10, hlZ10, h⟩ := bnd_s h
      have eZ11 : sZ1.2.map AV.i ++ lZ6.map AV.i = lZ10.map AV.i := by rw [← hlZ10, List.map_append]
      have eZ12 : sZ1.2.length + 1 = lZ10.length := by simp [← hlZ6, ← hlZ10] <;> omega
      rw [eZ12] at huZ9g
      cases h
      exact ZL (ZA cZ2 (ZA hyZ3a (ZA hyZ3b (ZA cZ5 (ZA eZ7 (ZA jjZ8 (ZA huZ9g (ZA eZ11 eZ12)))))))) (ZA S_impl_commonL1.eq_1 (ZA SX_impl_commonL1.eq_1 (ZA hlZ6.symm (ZA hlZ10.symm jjZ8))))
    · cases h
      exact ZL (ZA cZ2 (ZA hyZ3a (ZA hyZ3b cZ5))) (ZA S_impl_commonL1.eq_1 SX_impl_commonL1.eq_1)
  · cases h
    exact ZL cZ2 (ZA S_impl_commonL1.eq_1 SX_impl_commonL1.eq_1)
theorem w_impl_common (aZ0 : List Int) (bZ0 : List Int) {r : List Int} (h : M_impl_common aZ0 bZ0 = some r) : Ok Tryz.prog 68 [.lst .o 1 (aZ0.map AV.i), .lst .o 1 (bZ0.map AV.i)] ((fun r => .lst .u 1 (r.map AV.i)) r) := by
  refine ok_of_body hmix m68 rfl ?_
  unfold M_impl_common at h
  simp only [ZC, A68, V68, body_eq]
  obtain ⟨oZ13, hoZ13, h⟩ := bind_s h
  try refine ZF trivial ?_
  refine join_rule0 (blk_rule0 (loop_rule (w_impl_commonL1 aZ0 bZ0) hoZ13 ?_)) ?_
  · exact ZK (ZA S_impl_commonL1.eq_1 SX_impl_commonL1.eq_1)
  · simp only [ZC, SX_impl_commonL1, A68R2]
    obtain ⟨rZ14, hrZ14, h⟩ := bind_s h
    refine ZF trivial ?_
    refine ZW trivial (w_slices_Sort_Lint_intM1 _ hrZ14) (h2 := by first | exact nm_ok [1000000000] rfl (by decide +kernel) | exact nm_ok2 [1000000000] [] rfl (by decide +kernel) ZQ | exact ZQ) (hk := ?_)
    refine ZG ?_
    obtain ⟨rZ15, hrZ15, h⟩ := bind_s h
    refine ZF trivial ?_
    refine ZW trivial (w_slices_Compact_Lint_intM1 _ _ _ hrZ15) (h2 := by first | exact nm_ok [1000000000] rfl (by decide +kernel) | exact nm_ok2 [1000000000] [] rfl (by decide +kernel) ZQ | exact ZQ) (hk := ?_)
    refine ZG ?_
    obtain ⟨lZ16, hlZ16, h⟩ := bnd_s h
    have eZ17 : sub (rZ15.2.2.map AV.i) rZ15.1 rZ15.2.1 = lZ16.map AV.i := by rw [sub_mapT, hlZ16]
    cases h
    exact ZL eZ17 V68.eq_1
theorem w_impl_collide (aZ0 : TLight) (bZ0 : TLight) {r : Bool} (h : M_impl_collide aZ0 bZ0 = some r) : Ok Tryz.prog 131 [.agg [.i aZ0.Id, .i aZ0.Route.Start, .lst .o 1 (aZ0.Route.Fibers.map AV.i), .i aZ0.Block.First, .i aZ0.Block.Count], .agg [.i bZ0.Id, .i bZ0.Route.Start, .lst .o 1 (bZ0.Route.Fibers.map AV.i), .i bZ0.Block.First, .i bZ0.Block.Count]] ((fun r => .b r) r) := by
  refine ok_of_body hmix m131 rfl ?_
  unfold M_impl_collide at h
  simp only [ZC, A131, V131, body_eq]
  obtain ⟨rZ1, hrZ1, h⟩ := bind_s h
  refine ZF trivial ?_
  refine ZS trivial (w_impl_maskOf _ hrZ1) ?_
  refine ZG ?_
  obtain ⟨rZ2, hrZ2, h⟩ := bind_s h
  refine ZF trivial ?_
  refine ZS trivial (w_impl_maskOf _ hrZ2) ?_
  refine ZG ?_
  obtain ⟨cZ3, h⟩ | ⟨cZ3, h⟩ := cond_s h
  · obtain ⟨rZ4, hrZ4, h⟩ := bind_s h
    refine ZF cZ3 ?_
    refine ZU cZ3 (w_impl_common _ _ hrZ4) ?_
    refine ZG ?_
    cases h
    exact ZL cZ3 V131.eq_1
  · cases h
    exact ZL cZ3 V131.eq_1
theorem w_impl_IsValidPlan_c1 (ownZ0 : TLight) (p1Z0 : TLight) {r : Bool} (h : M_impl_IsValidPlan_c1 ownZ0 p1Z0 = some r) : Ok Tryz.prog 130 [.agg [.i ownZ0.Id, .i ownZ0.Route.Start, .lst .o 1 (ownZ0.Route.Fibers.map AV.i), .i ownZ0.Block.First, .i ownZ0.Block.Count], .bp (.agg [.i p1Z0.Id, .i p1Z0.Route.Start, .lst .o 1 (p1Z0.Route.Fibers.map AV.i), .i p1Z0.Block.First, .i p1Z0.Block.Count]) 0] ((fun r => .b r) r) := by
  refine ok_of_body hmix m130 rfl ?_
  unfold M_impl_IsValidPlan_c1 at h
  simp only [ZC, A130, V130, body_eq]
  obtain ⟨rZ1, hrZ1, h⟩ := bind_s h
  refine ZF trivial ?_
  refine ZS trivial (w_impl_collide _ _ hrZ1) ?_
  refine ZG ?_
  cases h
  exact ZL trivial V130.eq_1
def S_slices_IndexFunc_LightL1 (sZ0 : List TLight) (F_fZ0 : Nat) (C_fZ0 : List AV) (v : Int) : St := ⟨[(0, .lst .o 5 (sZ0.map (e_TLight .o))), (1, .fn F_fZ0 C_fZ0), (7, .i (sZ0.length : Int)), (8, .i v)], []⟩
def SX_slices_IndexFunc_LightL1 (v : Unit) : St := ⟨[], []⟩
theorem w_slices_IndexFunc_LightL1 (sZ0 : List TLight) (fZ0 : TLight → Option Bool) (F_fZ0 : Nat) (C_fZ0 : List AV) (hC_fZ0 : Fixed C_fZ0) (hf_fZ0 : ∀ (x0 : TLight) (r : Bool), fZ0 x0 = some r → Ok Tryz.prog F_fZ0 ((.agg [.i x0.Id, .i x0.Route.Start, .lst .o 1 (x0.Route.Fibers.map AV.i), .i x0.Block.First, .i x0.Block.Count]) :: C_fZ0) (.b r)) (sZ1 : Int) (o : Int ⊕ (Unit ⊕ Int)) (h : M_slices_IndexFunc_LightL1 sZ0 fZ0 sZ1 = some o) : AWP (OkS Tryz.prog) A133L1 (qL [0, 1, 7, 8] [] (S_slices_IndexFunc_LightL1 sZ0 F_fZ0 C_fZ0) (qS (qX 0 [] [] (SX_slices_IndexFunc_LightL1)) (qR V133 (fun r => .i r))) o) (S_slices_IndexFunc_LightL1 sZ0 F_fZ0 C_fZ0 sZ1) := by
  unfold M_slices_IndexFunc_LightL1 at h
  simp only [ZC, S_slices_IndexFunc_LightL1, A133L1]
  obtain ⟨cZ2, h⟩ | ⟨cZ2, h⟩ := cond_s h
  · obtain ⟨yZ3, hyZ3, h⟩ := bind_s h
    obtain ⟨hyZ3a, hyZ3b⟩ := geti_s hyZ3
    obtain ⟨rZ4, hrZ4, h⟩ := bind_s h
    refine ZF (ZA cZ2 (ZA hyZ3a hyZ3b)) ?_
    refine ZS (ZA cZ2 (ZA hyZ3a (ZA hyZ3b hC_fZ0.1))) (hf_fZ0 _ _ hrZ4) ?_
    refine ZG ?_
    obtain ⟨cZ5, h⟩ | ⟨cZ5, h⟩ := cond_s h
    · cases h
      exact ZL (ZA cZ2 (ZA hyZ3a (ZA hyZ3b cZ5))) (ZA V133.eq_1 (ZA hC_fZ0.2 ((fixed_ren hC_fZ0))))
    · cases h
      exact ZL (ZA cZ2 (ZA hyZ3a (ZA hyZ3b cZ5))) (ZA S_slices_IndexFunc_LightL1.eq_1 (ZA SX_slices_IndexFunc_LightL1.eq_1 (ZA hC_fZ0.2 ((fixed_ren hC_fZ0)))))
  · cases h
    exact ZL cZ2 (ZA S_slices_IndexFunc_LightL1.eq_1 (ZA SX_slices_IndexFunc_LightL1.eq_1 (ZA hC_fZ0.2 ((fixed_ren hC_fZ0)))))
theorem w_slices_IndexFunc_Light (sZ0 : List TLight) (fZ0 : TLight → Option Bool) {r : Int} (h : M_slices_IndexFunc_Light sZ0 fZ0 = some r) (F_fZ0 : Nat) (C_fZ0 : List AV) (hC_fZ0 : Fixed C_fZ0) (hf_fZ0 : ∀ (x0 : TLight) (r : Bool), fZ0 x0 = some r → Ok Tryz.prog F_fZ0 ((.agg [.i x0.Id, .i x0.Route.Start, .lst .o 1 (x0.Route.Fibers.map AV.i), .i x0.Block.First, .i x0.Block.Count]) :: C_fZ0) (.b r)) : Ok Tryz.prog 133 [.lst .o 5 (sZ0.map (e_TLight .o)), .fn F_fZ0 C_fZ0] ((fun r => .i r) r) := by
  refine ok_of_body hmix m133 rfl ?_
  unfold M_slices_IndexFunc_Light at h
  simp only [ZC, A133, V133, body_eq]
  obtain ⟨oZ6, hoZ6, h⟩ := bind_s h
  try refine ZF trivial ?_
  refine join_rule (o := oZ6) (blk_rule sideR (loop_rule (w_slices_IndexFunc_LightL1 sZ0 fZ0 F_fZ0 C_fZ0 hC_fZ0 hf_fZ0) hoZ6 ?_)) (fun vZ7 hv => ?_) (fun xZ8 hv e τ hne hq => ?_)
  · exact ZK (ZA S_slices_IndexFunc_LightL1.eq_1 (ZA SX_slices_IndexFunc_LightL1.eq_1 (ZA hC_fZ0.2 ((fixed_ren hC_fZ0)))))
  · subst hv
    simp only [] at h
    simp only [ZC, SX_slices_IndexFunc_LightL1, A133R2]
    cases h
    exact ZL trivial (ZA V133.eq_1 (ZA hC_fZ0.2 ((fixed_ren hC_fZ0))))
  · subst hv
    simp only [] at h
    obtain ⟨rfl, qZ9⟩ := hq
    cases h
    exact qZ9
theorem w_slices_ContainsFunc_Light (sZ0 : List TLight) (fZ0 : TLight → Option Bool) {r : Bool} (h : M_slices_ContainsFunc_Light sZ0 fZ0 = some r) (F_fZ0 : Nat) (C_fZ0 : List AV) (hC_fZ0 : Fixed C_fZ0) (hf_fZ0 : ∀ (x0 : TLight) (r : Bool), fZ0 x0 = some r → Ok Tryz.prog F_fZ0 ((.agg [.i x0.Id, .i x0.Route.Start, .lst .o 1 (x0.Route.Fibers.map AV.i), .i x0.Block.First, .i x0.Block.Count]) :: C_fZ0) (.b r)) : Ok Tryz.prog 65 [.lst .o 5 (sZ0.map (e_TLight .o)), .fn F_fZ0 C_fZ0] ((fun r => .b r) r) := by
  refine ok_of_body hmix m65 rfl ?_
  unfold M_slices_ContainsFunc_Light at h
  simp only [ZC, A65, V65, body_eq]
  obtain ⟨rZ1, hrZ1, h⟩ := bind_s h
  refine ZF trivial ?_
  refine ZS hC_fZ0.1 (w_slices_IndexFunc_Light _ _ hrZ1 F_fZ0 C_fZ0 hC_fZ0 hf_fZ0) ?_
  refine ZG ?_
  cases h
  exact ZL trivial (ZA V65.eq_1 (ZA hC_fZ0.2 ((fixed_ren hC_fZ0))))
def S_impl_IsValidPlanL1 (pZ0 : TPlan) (v : Int) : St := ⟨[(1, .pt 1 0 0), (16, .lst .o 5 (pZ0.Lights.map (e_TLight .o))), (17, .i (pZ0.Lights.length : Int)), (18, .i v)], [(1, .var (.agg [.lst .o 1 (pZ0.Network.Nodes.map AV.z), .lst .o 4 (pZ0.Network.Fibers.map (e_TFiber .o)), .lst .o 5 (pZ0.Lights.map (e_TLight .o))]))]⟩
def SX_impl_IsValidPlanL1 (v : Unit) : St := ⟨[], []⟩
theorem w_impl_IsValidPlanL1 (pZ0 : TPlan) (sZ5 : Int) (o : Int ⊕ (Unit ⊕ Bool)) (h : M_impl_IsValidPlanL1 pZ0 sZ5 = some o) : AWP (OkS Tryz.prog) A63L2 (qL [1, 16, 17, 18] [1] (S_impl_IsValidPlanL1 pZ0) (qS (qX 0 [] [] (SX_impl_IsValidPlanL1)) (qR V63 (fun r => .b r))) o) (S_impl_IsValidPlanL1 pZ0 sZ5) := by
  unfold M_impl_IsValidPlanL1 at h
  simp only [ZC, S_impl_IsValidPlanL1, A63L2]
  obtain ⟨cZ6, h⟩ | ⟨cZ6, h⟩ := cond_s h
  · obtain ⟨yZ7, hyZ7, h⟩ := bind_s h
    obtain ⟨hyZ7a, hyZ7b⟩ := geti_s hyZ7
    obtain ⟨rZ8, hrZ8, h⟩ := bind_s h
    refine ZF (ZA cZ6 (ZA hyZ7a hyZ7b)) ?_
    refine ZS (ZA cZ6 (ZA hyZ7a hyZ7b)) (w_impl_isLight _ _ hrZ8) ?_
    refine ZG ?_
    obtain ⟨cZ9, h⟩ | ⟨cZ9, h⟩ := cond_s h
    · cases h
      exact ZL (ZA cZ6 (ZA hyZ7a (ZA hyZ7b cZ9))) V63.eq_1
    · obtain ⟨cZ10, h⟩ | ⟨cZ10, h⟩ := cond_s h
      · obtain ⟨yZ11, hyZ11, h⟩ := bind_s h
        obtain ⟨hyZ11a, hyZ11b⟩ := geti_s hyZ11
        obtain ⟨cZ12, h⟩ | ⟨cZ12, h⟩ := cond_s h
        · cases h
          exact ZL (ZA cZ6 (ZA hyZ7a (ZA hyZ7b (ZA cZ9 (ZA cZ10 (ZA hyZ11a (ZA hyZ11b cZ12))))))) V63.eq_1
        · obtain ⟨lZ13, hlZ13, h⟩ := bind_s h
          obtain ⟨hlZ13a, hlZ13b, hlZ13c, hlZ13d, hlZ13e⟩ := slT_s (e_TLight .o) hlZ13
          obtain ⟨rZ14, hrZ14, h⟩ := bind_s h
          refine ZF (ZA cZ6 (ZA hyZ7a (ZA hyZ7b (ZA cZ9 (ZA cZ10 (ZA hyZ11a (ZA hyZ11b (ZA cZ12 (ZA hlZ13a (ZA hlZ13b (ZA hlZ13c (ZA hlZ13d hlZ13e)))))))))))) ?_
          refine ZS (ZA cZ6 (ZA hyZ7a (ZA hyZ7b (ZA cZ9 (ZA cZ10 (ZA hyZ11a (ZA hyZ11b (ZA cZ12 (ZA hlZ13a (ZA hlZ13b (ZA hlZ13c (ZA hlZ13d hlZ13e)))))))))))) (w_slices_ContainsFunc_Light _ _ hrZ14 130 [.bp (.agg [.i yZ7.Id, .i yZ7.Route.Start, .lst .o 1 (yZ7.Route.Fibers.map AV.i), .i yZ7.Block.First, .i yZ7.Block.Count]) 0] ⟨fun ρ k => by simp only [VS1, VS2, VS3, VS4, VS5, VS6, VT1, VT2, finM_ret, finM_nrm, decide_true, decide_false, List.nodup_nil, List.nodup_cons, oks_p, oks_m, oks_h, ne_eq, not_false_eq_true, Int.reduceEq, Int.reduceNe, true_and, false_and, Nat.reduceSub, Nat.reduceMul, ↓reduceIte, reduceCtorEq, Nat.reduceEqDiff, Nat.reduceAdd, Nat.reduceLeDiff, Int.reduceLE], by simp [mentsL, AV.ments]⟩ (fun _ _ h => w_impl_IsValidPlan_c1 _ _ h)) ?_
          refine ZG ?_
          obtain ⟨cZ15, h⟩ | ⟨cZ15, h⟩ := cond_s h
          · cases h
            exact ZL (ZA cZ6 (ZA hyZ7a (ZA hyZ7b (ZA cZ9 (ZA cZ10 (ZA hyZ11a (ZA hyZ11b (ZA cZ12 (ZA hlZ13a (ZA hlZ13b (ZA hlZ13c (ZA hlZ13d (ZA hlZ13e cZ15))))))))))))) V63.eq_1
          · cases h
            exact ZL (ZA cZ6 (ZA hyZ7a (ZA hyZ7b (ZA cZ9 (ZA cZ10 (ZA hyZ11a (ZA hyZ11b (ZA cZ12 (ZA hlZ13a (ZA hlZ13b (ZA hlZ13c (ZA hlZ13d (ZA hlZ13e cZ15))))))))))))) (ZA S_impl_IsValidPlanL1.eq_1 SX_impl_IsValidPlanL1.eq_1)
      · obtain ⟨lZ16, hlZ16, h⟩ := bind_s h
        obtain ⟨hlZ16a, hlZ16b, hlZ16c, hlZ16d, hlZ16e⟩ := slT_s (e_TLight .o) hlZ16
        obtain ⟨rZ17, hrZ17, h⟩ := bind_s h
        refine ZF (ZA cZ6 (ZA hyZ7a (ZA hyZ7b (ZA cZ9 (ZA cZ10 (ZA hlZ16a (ZA hlZ16b (ZA hlZ16c (ZA hlZ16d hlZ16e))))))))) ?_
        refine ZS (ZA cZ6 (ZA hyZ7a (ZA hyZ7b (ZA cZ9 (ZA cZ10 (ZA hlZ16a (ZA hlZ16b (ZA hlZ16c (ZA hlZ16d hlZ16e))))))))) (w_slices_ContainsFunc_Light _ _ hrZ17 130 [.bp (.agg [.i yZ7.Id, .i yZ7.Route.Start, .lst .o 1 (yZ7.Route.Fibers.map AV.i), .i yZ7.Block.First, .i yZ7.Block.Count]) 0] ⟨fun ρ k => by simp only [VS1, VS2, VS3, VS4, VS5, VS6, VT1, VT2, finM_ret, finM_nrm, decide_true, decide_false, List.nodup_nil, List.nodup_cons, oks_p, oks_m, oks_h, ne_eq, not_false_eq_true, Int.reduceEq, Int.reduceNe, true_and, false_and, Nat.reduceSub, Nat.reduceMul, ↓reduceIte, reduceCtorEq, Nat.reduceEqDiff, Nat.reduceAdd, Nat.reduceLeDiff, Int.reduceLE], by simp [mentsL, AV.ments]⟩ (fun _ _ h => w_impl_IsValidPlan_c1 _ _ h)) ?_
        refine ZG ?_
        obtain ⟨cZ18, h⟩ | ⟨cZ18, h⟩ := cond_s h
        · cases h
          exact ZL (ZA cZ6 (ZA hyZ7a (ZA hyZ7b (ZA cZ9 (ZA cZ10 (ZA hlZ16a (ZA hlZ16b (ZA hlZ16c (ZA hlZ16d (ZA hlZ16e cZ18)))))))))) V63.eq_1
        · cases h
          exact ZL (ZA cZ6 (ZA hyZ7a (ZA hyZ7b (ZA cZ9 (ZA cZ10 (ZA hlZ16a (ZA hlZ16b (ZA hlZ16c (ZA hlZ16d (ZA hlZ16e cZ18)))))))))) (ZA S_impl_IsValidPlanL1.eq_1 SX_impl_IsValidPlanL1.eq_1)
  · cases h
    exact ZL cZ6 (ZA S_impl_IsValidPlanL1.eq_1 SX_impl_IsValidPlanL1.eq_1)
theorem w_impl_IsValidPlan (pZ0 : TPlan) {r : Bool} (h : M_impl_IsValidPlan pZ0 = some r) : Ok Tryz.prog 63 [.agg [.lst .o 1 (pZ0.Network.Nodes.map AV.z), .lst .o 4 (pZ0.Network.Fibers.map (e_TFiber .o)), .lst .o 5 (pZ0.Lights.map (e_TLight .o))]] ((fun r => .b r) r) := by
  refine ok_of_body hmix m63 rfl ?_
  unfold M_impl_IsValidPlan at h
  simp only [ZC, A63, V63, body_eq]
  obtain ⟨oZ3, hoZ3, h⟩ := bind_s h
  try refine ZF trivial ?_
  refine join_rule0 (sh := (fun v => ⟨[(1, .pt 1 0 0), (14, .b v)], [(1, .var (.agg [.lst .o 1 (pZ0.Network.Nodes.map AV.z), .lst .o 4 (pZ0.Network.Fibers.map (e_TFiber .o)), .lst .o 5 (pZ0.Lights.map (e_TLight .o))]))]⟩)) (s := oZ3) ?_ ?_
  · replace h := hoZ3
    obtain ⟨rZ1, hrZ1, h⟩ := bind_s h
    refine ZF trivial ?_
    refine ZS trivial (w_impl_IsValidNetwork _ hrZ1) ?_
    refine ZG ?_
    obtain ⟨cZ2, h⟩ | ⟨cZ2, h⟩ := cond_s h
    · cases h
      exact ZL cZ2 trivial
    · cases h
      exact ZL cZ2 trivial
  · simp only [ZC, A63R1]
    obtain ⟨cZ4, h⟩ | ⟨cZ4, h⟩ := cond_s h
    · cases h
      exact ZL cZ4 V63.eq_1
    · obtain ⟨oZ19, hoZ19, h⟩ := bind_s h
      try refine ZF cZ4 ?_
      refine join_rule (o := oZ19) (blk_rule sideR (loop_rule (w_impl_IsValidPlanL1 pZ0) hoZ19 ?_)) (fun vZ20 hv => ?_) (fun xZ21 hv e τ hne hq => ?_)
      · exact ZK (ZA S_impl_IsValidPlanL1.eq_1 SX_impl_IsValidPlanL1.eq_1)
      · subst hv
        simp only [] at h
        simp only [ZC, SX_impl_IsValidPlanL1, A63R3]
        cases h
        exact ZL cZ4 V63.eq_1
      · subst hv
        simp only [] at h
        obtain ⟨rfl, qZ22⟩ := hq
        cases h
        exact qZ22
theorem w_impl_copyNetwork (nZ0 : TNetwork) {r : TNetwork} (h : M_impl_copyNetwork nZ0 = some r) : Ok Tryz.prog 157 [.agg [.lst .o 1 (nZ0.Nodes.map AV.z), .lst .o 4 (nZ0.Fibers.map (e_TFiber .o))]] ((fun r => .agg [.lst .u 1 (r.Nodes.map AV.z), .lst .u 4 (r.Fibers.map (e_TFiber .u))]) r) := by
  refine ok_of_body hmix m157 rfl ?_
  unfold M_impl_copyNetwork at h
  simp only [ZC, A157, V157, body_eq]
  obtain ⟨uZ1, huZ1, h⟩ := bind_s h
  have huZ1g := grd_s huZ1
  obtain ⟨uZ2, huZ2, h⟩ := bind_s h
  have huZ2g := grd_s huZ2
  cases h
  exact ZL (ZA huZ1g huZ2g) V157.eq_1
theorem w_impl_copyRoute (rZ0 : TRoute) {r : TRoute} (h : M_impl_copyRoute rZ0 = some r) : Ok Tryz.prog 108 [.agg [.i rZ0.Start, .lst .o 1 (rZ0.Fibers.map AV.i)]] ((fun r => .agg [.i r.Start, .lst .u 1 (r.Fibers.map AV.i)]) r) := by
  refine ok_of_body hmix m108 rfl ?_
  unfold M_impl_copyRoute at h
  simp only [ZC, A108, V108, body_eq]
  obtain ⟨uZ1, huZ1, h⟩ := bind_s h
  have huZ1g := grd_s huZ1
  cases h
  exact ZL huZ1g V108.eq_1
def S_impl_copyPlanL1 (pZ0 : TPlan) (rZ1 : TNetwork) (v : Int × List TLight) : St := ⟨[(2, .pt 2 0 0), (3, .pt 3 0 0), (11, .lst .o 5 (pZ0.Lights.map (e_TLight .o))), (12, .i (pZ0.Lights.length : Int)), (13, .i v.1)], [(2, .var (.agg [.lst .u 1 [], .lst .u 4 [], .lst .u 5 []])), (3, .var (.agg [.sl 500000192 0 rZ1.Nodes.length, .sl 500000193 0 rZ1.Fibers.length, .sl 500000194 0 v.2.length])), (500000192, .arr 1 (rZ1.Nodes.map AV.z)), (500000193, .arr 4 (rZ1.Fibers.map (e_TFiber .u))), (500000194, .arr 5 (v.2.map (e_TLight .u)))]⟩
def SX_impl_copyPlanL1 (rZ1 : TNetwork) (v : List TLight) : St := ⟨[(2, .pt 2 0 0), (3, .pt 3 0 0)], [(2, .var (.agg [.lst .u 1 [], .lst .u 4 [], .lst .u 5 []])), (3, .var (.agg [.sl 500000192 0 rZ1.Nodes.length, .sl 500000193 0 rZ1.Fibers.length, .sl 500000194 0 v.length])), (500000192, .arr 1 (rZ1.Nodes.map AV.z)), (500000193, .arr 4 (rZ1.Fibers.map (e_TFiber .u))), (500000194, .arr 5 (v.map (e_TLight .u)))]⟩
theorem w_impl_copyPlanL1 (pZ0 : TPlan) (rZ1 : TNetwork) (sZ2 : Int × List TLight) (o : (Int × List TLight) ⊕ (List TLight)) (h : M_impl_copyPlanL1 pZ0 sZ2 = some o) : AWP (OkS Tryz.prog) A98L1 (qL [2, 3, 11, 12, 13] [2, 3, 500000192, 500000193, 500000194] (S_impl_copyPlanL1 pZ0 rZ1) (qX 0 [2, 3] [2, 3, 500000192, 500000193, 500000194] (SX_impl_copyPlanL1 rZ1)) o) (S_impl_copyPlanL1 pZ0 rZ1 sZ2) := by
  unfold M_impl_copyPlanL1 at h
  simp only [ZC, S_impl_copyPlanL1, A98L1]
  obtain ⟨cZ3, h⟩ | ⟨cZ3, h⟩ := cond_s h
  · obtain ⟨yZ4, hyZ4, h⟩ := bind_s h
    obtain ⟨hyZ4a, hyZ4b⟩ := geti_s hyZ4
    obtain ⟨rZ5, hrZ5, h⟩ := bind_s h
    refine ZF (ZA cZ3 (ZA hyZ4a hyZ4b)) ?_
    refine ZU (ZA cZ3 (ZA hyZ4a hyZ4b)) (w_impl_copyRoute _ hrZ5) ?_
    refine ZG ?_
    obtain ⟨lZ6, hlZ6, h⟩ := bnd_s h
    have eZ7 : Row.arr 5 [(.agg [.i yZ4.Id, .i rZ5.Start, .lst .u 1 (rZ5.Fibers.map AV.i), .i yZ4.Block.First, .i yZ4.Block.Count] : AV)] = Row.arr 5 (lZ6.map (e_TLight .u)) := by rw [← hlZ6]; rfl
    have jjZ8 : lZ6.length = 1 := by rw [← hlZ6]; rfl
    obtain ⟨uZ9, huZ9, h⟩ := bind_s h
    have huZ9g := grd_s huZ9
    obtain ⟨lZ10, hlZ10, h⟩ := bnd_s h
    have eZ11 : sZ2.2.map (e_TLight .u) ++ lZ6.map (e_TLight .u) = lZ10.map (e_TLight .u) := by rw [← hlZ10, List.map_append]
    have eZ12 : sZ2.2.length + 1 = lZ10.length := by simp [← hlZ6, ← hlZ10] <;> omega
    rw [eZ12] at huZ9g
    cases h
    exact ZL (ZA cZ3 (ZA hyZ4a (ZA hyZ4b (ZA eZ7 (ZA jjZ8 (ZA huZ9g (ZA eZ11 eZ12))))))) (ZA S_impl_copyPlanL1.eq_1 (ZA SX_impl_copyPlanL1.eq_1 (ZA hlZ6.symm (ZA hlZ10.symm jjZ8))))
  · cases h
    exact ZL cZ3 (ZA S_impl_copyPlanL1.eq_1 SX_impl_copyPlanL1.eq_1)
theorem w_impl_copyPlan (pZ0 : TPlan) {r : TPlan} (h : M_impl_copyPlan pZ0 = some r) : Ok Tryz.prog 98 [.agg [.lst .o 1 (pZ0.Network.Nodes.map AV.z), .lst .o 4 (pZ0.Network.Fibers.map (e_TFiber .o)), .lst .o 5 (pZ0.Lights.map (e_TLight .o))]] ((fun r => .agg [.lst .u 1 (r.Network.Nodes.map AV.z), .lst .u 4 (r.Network.Fibers.map (e_TFiber .u)), .lst .u 5 (r.Lights.map (e_TLight .u))]) r) := by
  refine ok_of_body hmix m98 rfl ?_
  unfold M_impl_copyPlan at h
  simp only [ZC, A98, V98, body_eq]
  obtain ⟨rZ1, hrZ1, h⟩ := bind_s h
  refine ZF trivial ?_
  refine ZU trivial (w_impl_copyNetwork _ hrZ1) ?_
  refine ZG ?_
  obtain ⟨oZ13, hoZ13, h⟩ := bind_s h
  try refine ZF trivial ?_
  refine join_rule0 (blk_rule0 (loop_rule (w_impl_copyPlanL1 pZ0 rZ1) hoZ13 ?_)) ?_
  · exact ZK (ZA S_impl_copyPlanL1.eq_1 SX_impl_copyPlanL1.eq_1)
  · simp only [ZC, SX_impl_copyPlanL1, A98R2]
    cases h
    exact ZL trivial V98.eq_1
theorem w_impl_copyInts (lZ0 : List Int) {r : List Int} (h : M_impl_copyInts lZ0 = some r) : Ok Tryz.prog 142 [.lst .o 1 (lZ0.map AV.i)] ((fun r => .lst .u 1 (r.map AV.i)) r) := by
  refine ok_of_body hmix m142 rfl ?_
  unfold M_impl_copyInts at h
  simp only [ZC, A142, V142, body_eq]
  obtain ⟨uZ1, huZ1, h⟩ := bind_s h
  have huZ1g := grd_s huZ1
  cases h
  exact ZL huZ1g V142.eq_1
theorem w_impl_copyRestoration (rZ0 : TRestoration) {r : TRestoration} (h : M_impl_copyRestoration rZ0 = some r) : Ok Tryz.prog 77 [.agg [.lst .o 1 (rZ0.Plan.Network.Nodes.map AV.z), .lst .o 4 (rZ0.Plan.Network.Fibers.map (e_TFiber .o)), .lst .o 5 (rZ0.Plan.Lights.map (e_TLight .o)), .lst .o 5 (rZ0.Home.map (e_TLight .o)), .lst .o 1 (rZ0.Down.map AV.i)]] ((fun r => .agg [.lst .u 1 (r.Plan.Network.Nodes.map AV.z), .lst .u 4 (r.Plan.Network.Fibers.map (e_TFiber .u)), .lst .u 5 (r.Plan.Lights.map (e_TLight .u)), .lst .u 5 (r.Home.map (e_TLight .u)), .lst .u 1 (r.Down.map AV.i)]) r) := by
  refine ok_of_body hmix m77 rfl ?_
  unfold M_impl_copyRestoration at h
  simp only [ZC, A77, V77, body_eq]
  obtain ⟨rZ1, hrZ1, h⟩ := bind_s h
  refine ZF trivial ?_
  refine ZU trivial (w_impl_copyPlan _ hrZ1) ?_
  refine ZG ?_
  obtain ⟨rZ2, hrZ2, h⟩ := bind_s h
  refine ZF trivial ?_
  refine ZU trivial (w_impl_copyPlan _ hrZ2) ?_
  refine ZG ?_
  obtain ⟨rZ3, hrZ3, h⟩ := bind_s h
  refine ZF trivial ?_
  refine ZU trivial (w_impl_copyInts _ hrZ3) ?_
  refine ZG ?_
  cases h
  exact ZL trivial V77.eq_1
theorem w_impl_StartRestoration (pZ0 : TPlan) {r : TRestoration × Bool} (h : M_impl_StartRestoration pZ0 = some r) : Ok Tryz.prog 27 [.agg [.lst .o 1 (pZ0.Network.Nodes.map AV.z), .lst .o 4 (pZ0.Network.Fibers.map (e_TFiber .o)), .lst .o 5 (pZ0.Lights.map (e_TLight .o))]] ((fun r => .tup [.agg [.lst .u 1 (r.1.Plan.Network.Nodes.map AV.z), .lst .u 4 (r.1.Plan.Network.Fibers.map (e_TFiber .u)), .lst .u 5 (r.1.Plan.Lights.map (e_TLight .u)), .lst .u 5 (r.1.Home.map (e_TLight .u)), .lst .u 1 (r.1.Down.map AV.i)], .b r.2]) r) := by
  refine ok_of_body hmix m27 rfl ?_
  unfold M_impl_StartRestoration at h
  simp only [ZC, A27, V27, body_eq]
  obtain ⟨rZ1, hrZ1, h⟩ := bind_s h
  refine ZF trivial ?_
  refine ZS trivial (w_impl_IsValidPlan _ hrZ1) ?_
  refine ZG ?_
  obtain ⟨cZ2, h⟩ | ⟨cZ2, h⟩ := cond_s h
  · cases h
    exact ZL cZ2 V27.eq_1
  · obtain ⟨rZ3, hrZ3, h⟩ := bind_s h
    refine ZF cZ2 ?_
    refine ZU cZ2 (w_impl_copyRestoration _ hrZ3) ?_
    refine ZG ?_
    cases h
    exact ZL cZ2 V27.eq_1
def S_laws_eqStringSL1 (aZ0 : List ByteArray) (bZ0 : List ByteArray) (v : Int) : St := ⟨[(0, .lst .o 1 (aZ0.map AV.z)), (1, .lst .o 1 (bZ0.map AV.z)), (5, .i v)], []⟩
def SX_laws_eqStringSL1 (v : Unit) : St := ⟨[], []⟩
theorem w_laws_eqStringSL1 (aZ0 : List ByteArray) (bZ0 : List ByteArray) (sZ2 : Int) (o : Int ⊕ (Unit ⊕ Bool)) (h : M_laws_eqStringSL1 aZ0 bZ0 sZ2 = some o) : AWP (OkS Tryz.prog) A99L1 (qL [0, 1, 5] [] (S_laws_eqStringSL1 aZ0 bZ0) (qS (qX 0 [] [] (SX_laws_eqStringSL1)) (qR V99 (fun r => .b r))) o) (S_laws_eqStringSL1 aZ0 bZ0 sZ2) := by
  unfold M_laws_eqStringSL1 at h
  simp only [ZC, S_laws_eqStringSL1, A99L1]
  obtain ⟨cZ3, h⟩ | ⟨cZ3, h⟩ := cond_s h
  · obtain ⟨yZ4, hyZ4, h⟩ := bind_s h
    obtain ⟨hyZ4a, hyZ4b⟩ := geti_s hyZ4
    obtain ⟨yZ5, hyZ5, h⟩ := bind_s h
    obtain ⟨hyZ5a, hyZ5b⟩ := geti_s hyZ5
    obtain ⟨cZ6, h⟩ | ⟨cZ6, h⟩ := cond_s h
    · cases h
      exact ZL (ZA cZ3 (ZA hyZ4a (ZA hyZ4b (ZA hyZ5a (ZA hyZ5b cZ6))))) V99.eq_1
    · cases h
      exact ZL (ZA cZ3 (ZA hyZ4a (ZA hyZ4b (ZA hyZ5a (ZA hyZ5b cZ6))))) (ZA S_laws_eqStringSL1.eq_1 SX_laws_eqStringSL1.eq_1)
  · cases h
    exact ZL cZ3 (ZA S_laws_eqStringSL1.eq_1 SX_laws_eqStringSL1.eq_1)
theorem w_laws_eqStringS (aZ0 : List ByteArray) (bZ0 : List ByteArray) {r : Bool} (h : M_laws_eqStringS aZ0 bZ0 = some r) : Ok Tryz.prog 99 [.lst .o 1 (aZ0.map AV.z), .lst .o 1 (bZ0.map AV.z)] ((fun r => .b r) r) := by
  refine ok_of_body hmix m99 rfl ?_
  unfold M_laws_eqStringS at h
  simp only [ZC, A99, V99, body_eq]
  obtain ⟨cZ1, h⟩ | ⟨cZ1, h⟩ := cond_s h
  · cases h
    exact ZL cZ1 V99.eq_1
  · obtain ⟨oZ7, hoZ7, h⟩ := bind_s h
    try refine ZF cZ1 ?_
    refine join_rule (o := oZ7) (blk_rule sideR (loop_rule (w_laws_eqStringSL1 aZ0 bZ0) hoZ7 ?_)) (fun vZ8 hv => ?_) (fun xZ9 hv e τ hne hq => ?_)
    · exact ZK (ZA S_laws_eqStringSL1.eq_1 SX_laws_eqStringSL1.eq_1)
    · subst hv
      simp only [] at h
      simp only [ZC, SX_laws_eqStringSL1, A99R2]
      cases h
      exact ZL cZ1 V99.eq_1
    · subst hv
      simp only [] at h
      obtain ⟨rfl, qZ10⟩ := hq
      cases h
      exact qZ10
theorem w_laws_eqFiber (aZ0 : TFiber) (bZ0 : TFiber) {r : Bool} (h : M_laws_eqFiber aZ0 bZ0 = some r) : Ok Tryz.prog 158 [.agg [.i aZ0.A, .i aZ0.B, .i aZ0.Length, .i aZ0.Risk], .agg [.i bZ0.A, .i bZ0.B, .i bZ0.Length, .i bZ0.Risk]] ((fun r => .b r) r) := by
  refine ok_of_body hmix m158 rfl ?_
  unfold M_laws_eqFiber at h
  simp only [ZC, A158, V158, body_eq]
  obtain ⟨cZ1, h⟩ | ⟨cZ1, h⟩ := cond_s h
  · cases h
    exact ZL cZ1 V158.eq_1
  · obtain ⟨cZ2, h⟩ | ⟨cZ2, h⟩ := cond_s h
    · cases h
      exact ZL (ZA cZ1 cZ2) V158.eq_1
    · obtain ⟨cZ3, h⟩ | ⟨cZ3, h⟩ := cond_s h
      · cases h
        exact ZL (ZA cZ1 (ZA cZ2 cZ3)) V158.eq_1
      · obtain ⟨cZ4, h⟩ | ⟨cZ4, h⟩ := cond_s h
        · cases h
          exact ZL (ZA cZ1 (ZA cZ2 (ZA cZ3 cZ4))) V158.eq_1
        · cases h
          exact ZL (ZA cZ1 (ZA cZ2 (ZA cZ3 cZ4))) V158.eq_1
def S_laws_eqFiberSL1 (aZ0 : List TFiber) (bZ0 : List TFiber) (v : Int) : St := ⟨[(0, .lst .o 4 (aZ0.map (e_TFiber .o))), (1, .lst .o 4 (bZ0.map (e_TFiber .o))), (5, .i v)], []⟩
def SX_laws_eqFiberSL1 (v : Unit) : St := ⟨[], []⟩
theorem w_laws_eqFiberSL1 (aZ0 : List TFiber) (bZ0 : List TFiber) (sZ2 : Int) (o : Int ⊕ (Unit ⊕ Bool)) (h : M_laws_eqFiberSL1 aZ0 bZ0 sZ2 = some o) : AWP (OkS Tryz.prog) A100L1 (qL [0, 1, 5] [] (S_laws_eqFiberSL1 aZ0 bZ0) (qS (qX 0 [] [] (SX_laws_eqFiberSL1)) (qR V100 (fun r => .b r))) o) (S_laws_eqFiberSL1 aZ0 bZ0 sZ2) := by
  unfold M_laws_eqFiberSL1 at h
  simp only [ZC, S_laws_eqFiberSL1, A100L1]
  obtain ⟨cZ3, h⟩ | ⟨cZ3, h⟩ := cond_s h
  · obtain ⟨yZ4, hyZ4, h⟩ := bind_s h
    obtain ⟨hyZ4a, hyZ4b⟩ := geti_s hyZ4
    obtain ⟨yZ5, hyZ5, h⟩ := bind_s h
    obtain ⟨hyZ5a, hyZ5b⟩ := geti_s hyZ5
    obtain ⟨rZ6, hrZ6, h⟩ := bind_s h
    refine ZF (ZA cZ3 (ZA hyZ4a (ZA hyZ4b (ZA hyZ5a hyZ5b)))) ?_
    refine ZS (ZA cZ3 (ZA hyZ4a (ZA hyZ4b (ZA hyZ5a hyZ5b)))) (w_laws_eqFiber _ _ hrZ6) ?_
    refine ZG ?_
    obtain ⟨cZ7, h⟩ | ⟨cZ7, h⟩ := cond_s h
    · cases h
      exact ZL (ZA cZ3 (ZA hyZ4a (ZA hyZ4b (ZA hyZ5a (ZA hyZ5b cZ7))))) V100.eq_1
    · cases h
      exact ZL (ZA cZ3 (ZA hyZ4a (ZA hyZ4b (ZA hyZ5a (ZA hyZ5b cZ7))))) (ZA S_laws_eqFiberSL1.eq_1 SX_laws_eqFiberSL1.eq_1)
  · cases h
    exact ZL cZ3 (ZA S_laws_eqFiberSL1.eq_1 SX_laws_eqFiberSL1.eq_1)
theorem w_laws_eqFiberS (aZ0 : List TFiber) (bZ0 : List TFiber) {r : Bool} (h : M_laws_eqFiberS aZ0 bZ0 = some r) : Ok Tryz.prog 100 [.lst .o 4 (aZ0.map (e_TFiber .o)), .lst .o 4 (bZ0.map (e_TFiber .o))] ((fun r => .b r) r) := by
  refine ok_of_body hmix m100 rfl ?_
  unfold M_laws_eqFiberS at h
  simp only [ZC, A100, V100, body_eq]
  obtain ⟨cZ1, h⟩ | ⟨cZ1, h⟩ := cond_s h
  · cases h
    exact ZL cZ1 V100.eq_1
  · obtain ⟨oZ8, hoZ8, h⟩ := bind_s h
    try refine ZF cZ1 ?_
    refine join_rule (o := oZ8) (blk_rule sideR (loop_rule (w_laws_eqFiberSL1 aZ0 bZ0) hoZ8 ?_)) (fun vZ9 hv => ?_) (fun xZ10 hv e τ hne hq => ?_)
    · exact ZK (ZA S_laws_eqFiberSL1.eq_1 SX_laws_eqFiberSL1.eq_1)
    · subst hv
      simp only [] at h
      simp only [ZC, SX_laws_eqFiberSL1, A100R2]
      cases h
      exact ZL cZ1 V100.eq_1
    · subst hv
      simp only [] at h
      obtain ⟨rfl, qZ11⟩ := hq
      cases h
      exact qZ11
theorem w_laws_eqNetwork (aZ0 : TNetwork) (bZ0 : TNetwork) {r : Bool} (h : M_laws_eqNetwork aZ0 bZ0 = some r) : Ok Tryz.prog 40 [.agg [.lst .o 1 (aZ0.Nodes.map AV.z), .lst .o 4 (aZ0.Fibers.map (e_TFiber .o))], .agg [.lst .o 1 (bZ0.Nodes.map AV.z), .lst .o 4 (bZ0.Fibers.map (e_TFiber .o))]] ((fun r => .b r) r) := by
  refine ok_of_body hmix m40 rfl ?_
  unfold M_laws_eqNetwork at h
  simp only [ZC, A40, V40, body_eq]
  obtain ⟨rZ1, hrZ1, h⟩ := bind_s h
  refine ZF trivial ?_
  refine ZS trivial (w_laws_eqStringS _ _ hrZ1) ?_
  refine ZG ?_
  obtain ⟨cZ2, h⟩ | ⟨cZ2, h⟩ := cond_s h
  · cases h
    exact ZL cZ2 V40.eq_1
  · obtain ⟨rZ3, hrZ3, h⟩ := bind_s h
    refine ZF cZ2 ?_
    refine ZS cZ2 (w_laws_eqFiberS _ _ hrZ3) ?_
    refine ZG ?_
    obtain ⟨cZ4, h⟩ | ⟨cZ4, h⟩ := cond_s h
    · cases h
      exact ZL (ZA cZ2 cZ4) V40.eq_1
    · cases h
      exact ZL (ZA cZ2 cZ4) V40.eq_1
def S_laws_eqIntSL1 (aZ0 : List Int) (bZ0 : List Int) (v : Int) : St := ⟨[(0, .lst .o 1 (aZ0.map AV.i)), (1, .lst .o 1 (bZ0.map AV.i)), (5, .i v)], []⟩
def SX_laws_eqIntSL1 (v : Unit) : St := ⟨[], []⟩
theorem w_laws_eqIntSL1 (aZ0 : List Int) (bZ0 : List Int) (sZ2 : Int) (o : Int ⊕ (Unit ⊕ Bool)) (h : M_laws_eqIntSL1 aZ0 bZ0 sZ2 = some o) : AWP (OkS Tryz.prog) A20L1 (qL [0, 1, 5] [] (S_laws_eqIntSL1 aZ0 bZ0) (qS (qX 0 [] [] (SX_laws_eqIntSL1)) (qR V20 (fun r => .b r))) o) (S_laws_eqIntSL1 aZ0 bZ0 sZ2) := by
  unfold M_laws_eqIntSL1 at h
  simp only [ZC, S_laws_eqIntSL1, A20L1]
  obtain ⟨cZ3, h⟩ | ⟨cZ3, h⟩ := cond_s h
  · obtain ⟨yZ4, hyZ4, h⟩ := bind_s h
    obtain ⟨hyZ4a, hyZ4b⟩ := geti_s hyZ4
    obtain ⟨yZ5, hyZ5, h⟩ := bind_s h
    obtain ⟨hyZ5a, hyZ5b⟩ := geti_s hyZ5
    obtain ⟨cZ6, h⟩ | ⟨cZ6, h⟩ := cond_s h
    · cases h
      exact ZL (ZA cZ3 (ZA hyZ4a (ZA hyZ4b (ZA hyZ5a (ZA hyZ5b cZ6))))) V20.eq_1
    · cases h
      exact ZL (ZA cZ3 (ZA hyZ4a (ZA hyZ4b (ZA hyZ5a (ZA hyZ5b cZ6))))) (ZA S_laws_eqIntSL1.eq_1 SX_laws_eqIntSL1.eq_1)
  · cases h
    exact ZL cZ3 (ZA S_laws_eqIntSL1.eq_1 SX_laws_eqIntSL1.eq_1)
theorem w_laws_eqIntS (aZ0 : List Int) (bZ0 : List Int) {r : Bool} (h : M_laws_eqIntS aZ0 bZ0 = some r) : Ok Tryz.prog 20 [.lst .o 1 (aZ0.map AV.i), .lst .o 1 (bZ0.map AV.i)] ((fun r => .b r) r) := by
  refine ok_of_body hmix m20 rfl ?_
  unfold M_laws_eqIntS at h
  simp only [ZC, A20, V20, body_eq]
  obtain ⟨cZ1, h⟩ | ⟨cZ1, h⟩ := cond_s h
  · cases h
    exact ZL cZ1 V20.eq_1
  · obtain ⟨oZ7, hoZ7, h⟩ := bind_s h
    try refine ZF cZ1 ?_
    refine join_rule (o := oZ7) (blk_rule sideR (loop_rule (w_laws_eqIntSL1 aZ0 bZ0) hoZ7 ?_)) (fun vZ8 hv => ?_) (fun xZ9 hv e τ hne hq => ?_)
    · exact ZK (ZA S_laws_eqIntSL1.eq_1 SX_laws_eqIntSL1.eq_1)
    · subst hv
      simp only [] at h
      simp only [ZC, SX_laws_eqIntSL1, A20R2]
      cases h
      exact ZL cZ1 V20.eq_1
    · subst hv
      simp only [] at h
      obtain ⟨rfl, qZ10⟩ := hq
      cases h
      exact qZ10
theorem w_laws_eqRoute (aZ0 : TRoute) (bZ0 : TRoute) {r : Bool} (h : M_laws_eqRoute aZ0 bZ0 = some r) : Ok Tryz.prog 159 [.agg [.i aZ0.Start, .lst .o 1 (aZ0.Fibers.map AV.i)], .agg [.i bZ0.Start, .lst .o 1 (bZ0.Fibers.map AV.i)]] ((fun r => .b r) r) := by
  refine ok_of_body hmix m159 rfl ?_
  unfold M_laws_eqRoute at h
  simp only [ZC, A159, V159, body_eq]
  obtain ⟨cZ1, h⟩ | ⟨cZ1, h⟩ := cond_s h
  · cases h
    exact ZL cZ1 V159.eq_1
  · obtain ⟨rZ2, hrZ2, h⟩ := bind_s h
    refine ZF cZ1 ?_
    refine ZS cZ1 (w_laws_eqIntS _ _ hrZ2) ?_
    refine ZG ?_
    obtain ⟨cZ3, h⟩ | ⟨cZ3, h⟩ := cond_s h
    · cases h
      exact ZL (ZA cZ1 cZ3) V159.eq_1
    · cases h
      exact ZL (ZA cZ1 cZ3) V159.eq_1
theorem w_laws_eqBlock (aZ0 : TBlock) (bZ0 : TBlock) {r : Bool} (h : M_laws_eqBlock aZ0 bZ0 = some r) : Ok Tryz.prog 160 [.agg [.i aZ0.First, .i aZ0.Count], .agg [.i bZ0.First, .i bZ0.Count]] ((fun r => .b r) r) := by
  refine ok_of_body hmix m160 rfl ?_
  unfold M_laws_eqBlock at h
  simp only [ZC, A160, V160, body_eq]
  obtain ⟨cZ1, h⟩ | ⟨cZ1, h⟩ := cond_s h
  · cases h
    exact ZL cZ1 V160.eq_1
  · obtain ⟨cZ2, h⟩ | ⟨cZ2, h⟩ := cond_s h
    · cases h
      exact ZL (ZA cZ1 cZ2) V160.eq_1
    · cases h
      exact ZL (ZA cZ1 cZ2) V160.eq_1
theorem w_laws_eqLight (aZ0 : TLight) (bZ0 : TLight) {r : Bool} (h : M_laws_eqLight aZ0 bZ0 = some r) : Ok Tryz.prog 136 [.agg [.i aZ0.Id, .i aZ0.Route.Start, .lst .o 1 (aZ0.Route.Fibers.map AV.i), .i aZ0.Block.First, .i aZ0.Block.Count], .agg [.i bZ0.Id, .i bZ0.Route.Start, .lst .o 1 (bZ0.Route.Fibers.map AV.i), .i bZ0.Block.First, .i bZ0.Block.Count]] ((fun r => .b r) r) := by
  refine ok_of_body hmix m136 rfl ?_
  unfold M_laws_eqLight at h
  simp only [ZC, A136, V136, body_eq]
  obtain ⟨cZ1, h⟩ | ⟨cZ1, h⟩ := cond_s h
  · cases h
    exact ZL cZ1 V136.eq_1
  · obtain ⟨rZ2, hrZ2, h⟩ := bind_s h
    refine ZF cZ1 ?_
    refine ZS cZ1 (w_laws_eqRoute _ _ hrZ2) ?_
    refine ZG ?_
    obtain ⟨cZ3, h⟩ | ⟨cZ3, h⟩ := cond_s h
    · cases h
      exact ZL (ZA cZ1 cZ3) V136.eq_1
    · obtain ⟨rZ4, hrZ4, h⟩ := bind_s h
      refine ZF (ZA cZ1 cZ3) ?_
      refine ZS (ZA cZ1 cZ3) (w_laws_eqBlock _ _ hrZ4) ?_
      refine ZG ?_
      obtain ⟨cZ5, h⟩ | ⟨cZ5, h⟩ := cond_s h
      · cases h
        exact ZL (ZA cZ1 (ZA cZ3 cZ5)) V136.eq_1
      · cases h
        exact ZL (ZA cZ1 (ZA cZ3 cZ5)) V136.eq_1
def S_laws_eqLightSL1 (aZ0 : List TLight) (bZ0 : List TLight) (v : Int) : St := ⟨[(0, .lst .o 5 (aZ0.map (e_TLight .o))), (1, .lst .o 5 (bZ0.map (e_TLight .o))), (5, .i v)], []⟩
def SX_laws_eqLightSL1 (v : Unit) : St := ⟨[], []⟩
theorem w_laws_eqLightSL1 (aZ0 : List TLight) (bZ0 : List TLight) (sZ2 : Int) (o : Int ⊕ (Unit ⊕ Bool)) (h : M_laws_eqLightSL1 aZ0 bZ0 sZ2 = some o) : AWP (OkS Tryz.prog) A70L1 (qL [0, 1, 5] [] (S_laws_eqLightSL1 aZ0 bZ0) (qS (qX 0 [] [] (SX_laws_eqLightSL1)) (qR V70 (fun r => .b r))) o) (S_laws_eqLightSL1 aZ0 bZ0 sZ2) := by
  unfold M_laws_eqLightSL1 at h
  simp only [ZC, S_laws_eqLightSL1, A70L1]
  obtain ⟨cZ3, h⟩ | ⟨cZ3, h⟩ := cond_s h
  · obtain ⟨yZ4, hyZ4, h⟩ := bind_s h
    obtain ⟨hyZ4a, hyZ4b⟩ := geti_s hyZ4
    obtain ⟨yZ5, hyZ5, h⟩ := bind_s h
    obtain ⟨hyZ5a, hyZ5b⟩ := geti_s hyZ5
    obtain ⟨rZ6, hrZ6, h⟩ := bind_s h
    refine ZF (ZA cZ3 (ZA hyZ4a (ZA hyZ4b (ZA hyZ5a hyZ5b)))) ?_
    refine ZS (ZA cZ3 (ZA hyZ4a (ZA hyZ4b (ZA hyZ5a hyZ5b)))) (w_laws_eqLight _ _ hrZ6) ?_
    refine ZG ?_
    obtain ⟨cZ7, h⟩ | ⟨cZ7, h⟩ := cond_s h
    · cases h
      exact ZL (ZA cZ3 (ZA hyZ4a (ZA hyZ4b (ZA hyZ5a (ZA hyZ5b cZ7))))) V70.eq_1
    · cases h
      exact ZL (ZA cZ3 (ZA hyZ4a (ZA hyZ4b (ZA hyZ5a (ZA hyZ5b cZ7))))) (ZA S_laws_eqLightSL1.eq_1 SX_laws_eqLightSL1.eq_1)
  · cases h
    exact ZL cZ3 (ZA S_laws_eqLightSL1.eq_1 SX_laws_eqLightSL1.eq_1)
theorem w_laws_eqLightS (aZ0 : List TLight) (bZ0 : List TLight) {r : Bool} (h : M_laws_eqLightS aZ0 bZ0 = some r) : Ok Tryz.prog 70 [.lst .o 5 (aZ0.map (e_TLight .o)), .lst .o 5 (bZ0.map (e_TLight .o))] ((fun r => .b r) r) := by
  refine ok_of_body hmix m70 rfl ?_
  unfold M_laws_eqLightS at h
  simp only [ZC, A70, V70, body_eq]
  obtain ⟨cZ1, h⟩ | ⟨cZ1, h⟩ := cond_s h
  · cases h
    exact ZL cZ1 V70.eq_1
  · obtain ⟨oZ8, hoZ8, h⟩ := bind_s h
    try refine ZF cZ1 ?_
    refine join_rule (o := oZ8) (blk_rule sideR (loop_rule (w_laws_eqLightSL1 aZ0 bZ0) hoZ8 ?_)) (fun vZ9 hv => ?_) (fun xZ10 hv e τ hne hq => ?_)
    · exact ZK (ZA S_laws_eqLightSL1.eq_1 SX_laws_eqLightSL1.eq_1)
    · subst hv
      simp only [] at h
      simp only [ZC, SX_laws_eqLightSL1, A70R2]
      cases h
      exact ZL cZ1 V70.eq_1
    · subst hv
      simp only [] at h
      obtain ⟨rfl, qZ11⟩ := hq
      cases h
      exact qZ11
theorem w_laws_eqPlan (aZ0 : TPlan) (bZ0 : TPlan) {r : Bool} (h : M_laws_eqPlan aZ0 bZ0 = some r) : Ok Tryz.prog 28 [.agg [.lst .o 1 (aZ0.Network.Nodes.map AV.z), .lst .o 4 (aZ0.Network.Fibers.map (e_TFiber .o)), .lst .o 5 (aZ0.Lights.map (e_TLight .o))], .agg [.lst .o 1 (bZ0.Network.Nodes.map AV.z), .lst .o 4 (bZ0.Network.Fibers.map (e_TFiber .o)), .lst .o 5 (bZ0.Lights.map (e_TLight .o))]] ((fun r => .b r) r) := by
  refine ok_of_body hmix m28 rfl ?_
  unfold M_laws_eqPlan at h
  simp only [ZC, A28, V28, body_eq]
  obtain ⟨rZ1, hrZ1, h⟩ := bind_s h
  refine ZF trivial ?_
  refine ZS trivial (w_laws_eqNetwork _ _ hrZ1) ?_
  refine ZG ?_
  obtain ⟨cZ2, h⟩ | ⟨cZ2, h⟩ := cond_s h
  · cases h
    exact ZL cZ2 V28.eq_1
  · obtain ⟨rZ3, hrZ3, h⟩ := bind_s h
    refine ZF cZ2 ?_
    refine ZS cZ2 (w_laws_eqLightS _ _ hrZ3) ?_
    refine ZG ?_
    obtain ⟨cZ4, h⟩ | ⟨cZ4, h⟩ := cond_s h
    · cases h
      exact ZL (ZA cZ2 cZ4) V28.eq_1
    · cases h
      exact ZL (ZA cZ2 cZ4) V28.eq_1
theorem w_laws_eqRestoration (aZ0 : TRestoration) (bZ0 : TRestoration) {r : Bool} (h : M_laws_eqRestoration aZ0 bZ0 = some r) : Ok Tryz.prog 17 [.agg [.lst .o 1 (aZ0.Plan.Network.Nodes.map AV.z), .lst .o 4 (aZ0.Plan.Network.Fibers.map (e_TFiber .o)), .lst .o 5 (aZ0.Plan.Lights.map (e_TLight .o)), .lst .o 5 (aZ0.Home.map (e_TLight .o)), .lst .o 1 (aZ0.Down.map AV.i)], .agg [.lst .o 1 (bZ0.Plan.Network.Nodes.map AV.z), .lst .o 4 (bZ0.Plan.Network.Fibers.map (e_TFiber .o)), .lst .o 5 (bZ0.Plan.Lights.map (e_TLight .o)), .lst .o 5 (bZ0.Home.map (e_TLight .o)), .lst .o 1 (bZ0.Down.map AV.i)]] ((fun r => .b r) r) := by
  refine ok_of_body hmix m17 rfl ?_
  unfold M_laws_eqRestoration at h
  simp only [ZC, A17, V17, body_eq]
  obtain ⟨rZ1, hrZ1, h⟩ := bind_s h
  refine ZF trivial ?_
  refine ZS trivial (w_laws_eqPlan _ _ hrZ1) ?_
  refine ZG ?_
  obtain ⟨cZ2, h⟩ | ⟨cZ2, h⟩ := cond_s h
  · cases h
    exact ZL cZ2 V17.eq_1
  · obtain ⟨rZ3, hrZ3, h⟩ := bind_s h
    refine ZF cZ2 ?_
    refine ZS cZ2 (w_laws_eqLightS _ _ hrZ3) ?_
    refine ZG ?_
    obtain ⟨cZ4, h⟩ | ⟨cZ4, h⟩ := cond_s h
    · cases h
      exact ZL (ZA cZ2 cZ4) V17.eq_1
    · obtain ⟨rZ5, hrZ5, h⟩ := bind_s h
      refine ZF (ZA cZ2 cZ4) ?_
      refine ZS (ZA cZ2 cZ4) (w_laws_eqIntS _ _ hrZ5) ?_
      refine ZG ?_
      obtain ⟨cZ6, h⟩ | ⟨cZ6, h⟩ := cond_s h
      · cases h
        exact ZL (ZA cZ2 (ZA cZ4 cZ6)) V17.eq_1
      · cases h
        exact ZL (ZA cZ2 (ZA cZ4 cZ6)) V17.eq_1
def S_laws_markTextL1 (v : Int × ByteArray) : St := ⟨[(0, .i v.1), (3, .z v.2)], []⟩
def SX_laws_markTextL1 (v : ByteArray) : St := ⟨[(3, .z v)], []⟩
theorem w_laws_markTextL1 (sZ2 : Int × ByteArray) (o : (Int × ByteArray) ⊕ ByteArray) (h : M_laws_markTextL1 sZ2 = some o) : AWP (OkS Tryz.prog) A161L1 (qL [0, 3] [] (S_laws_markTextL1) (qX 0 [3] [] (SX_laws_markTextL1)) o) (S_laws_markTextL1 sZ2) := by
  unfold M_laws_markTextL1 at h
  simp only [ZC, S_laws_markTextL1, A161L1]
  obtain ⟨cZ3, h⟩ | ⟨cZ3, h⟩ := cond_s h
  · obtain ⟨uZ4, huZ4, h⟩ := bind_s h
    have huZ4g := grd_s huZ4
    obtain ⟨lZ5, hlZ5, h⟩ := bnd_s h
    have eZ6 : Row.arr 1 [(.sc (.int .u8 (IntKind.wrap .u8 (IntKind.wrap .i64 (48 + (Int.tmod sZ2.1 10))))) : AV)] = Row.arr 1 (lZ5.map AV.u8) := by rw [← hlZ5]; rfl
    have jjZ7 : lZ5.length = 1 := by rw [← hlZ5]; rfl
    have nZ8 : sub (lZ5.map AV.u8) 0 1 = lZ5.map AV.u8 := sub_n _ (by simp [← hlZ5])
    obtain ⟨uZ9, huZ9, h⟩ := bind_s h
    have huZ9g := grd_s huZ9
    obtain ⟨uZ10, huZ10, h⟩ := bind_s h
    have huZ10g := grd_s huZ10
    cases h
    exact ZL (ZA cZ3 (ZA huZ4g (ZA eZ6 (ZA jjZ7 (ZA nZ8 (ZA huZ9g huZ10g)))))) (ZA S_laws_markTextL1.eq_1 (ZA SX_laws_markTextL1.eq_1 (ZA hlZ5.symm jjZ7)))
  · cases h
    exact ZL cZ3 (ZA S_laws_markTextL1.eq_1 SX_laws_markTextL1.eq_1)
theorem w_laws_markText (kZ0 : Int) {r : ByteArray} (h : M_laws_markText kZ0 = some r) : Ok Tryz.prog 161 [.i kZ0] ((fun r => .z r) r) := by
  refine ok_of_body hmix m161 rfl ?_
  unfold M_laws_markText at h
  simp only [ZC, A161, V161, body_eq]
  obtain ⟨cZ1, h⟩ | ⟨cZ1, h⟩ := cond_s h
  · cases h
    exact ZL cZ1 V161.eq_1
  · obtain ⟨oZ11, hoZ11, h⟩ := bind_s h
    try refine ZF cZ1 ?_
    refine join_rule0 (blk_rule0 (loop_rule (w_laws_markTextL1) hoZ11 ?_)) ?_
    · exact ZK (ZA S_laws_markTextL1.eq_1 SX_laws_markTextL1.eq_1)
    · simp only [ZC, SX_laws_markTextL1, A161R2]
      obtain ⟨uZ12, huZ12, h⟩ := bind_s h
      have huZ12g := grd_s huZ12
      cases h
      exact ZL (ZA cZ1 huZ12g) V161.eq_1
def S_laws_markStringSM1L1 (v : Int × Int × List ByteArray) : St := ⟨[(0, .sl 1000000000 0 v.2.2.length), (1, .i v.1), (5, .i v.2.1)], [(1000000000, .arr 1 (v.2.2.map AV.z))]⟩
def SX_laws_markStringSM1L1 (v : Int × List ByteArray) : St := ⟨[(1, .i v.1)], [(1000000000, .arr 1 (v.2.map AV.z))]⟩
theorem w_laws_markStringSM1L1 (sZ1 : Int × Int × List ByteArray) (o : (Int × Int × List ByteArray) ⊕ (Int × List ByteArray)) (h : M_laws_markStringSM1L1 sZ1 = some o) : AWP (OkS Tryz.prog) A102M1L1 (qL [0, 1, 5] [1000000000] (S_laws_markStringSM1L1) (qX 0 [1] [1000000000] (SX_laws_markStringSM1L1)) o) (S_laws_markStringSM1L1 sZ1) := by
  unfold M_laws_markStringSM1L1 at h
  simp only [ZC, S_laws_markStringSM1L1, A102M1L1]
  obtain ⟨cZ2, h⟩ | ⟨cZ2, h⟩ := cond_s h
  · obtain ⟨rZ3, hrZ3, h⟩ := bind_s h
    refine ZF cZ2 ?_
    refine ZS cZ2 (w_laws_markText _ hrZ3) ?_
    refine ZG ?_
    obtain ⟨kZ4, hkZ4, h⟩ := bind_s h
    obtain ⟨hkZ4a, hkZ4b⟩ := grd_s hkZ4
    obtain ⟨yZ5, hyZ5, h⟩ := bind_s h
    obtain ⟨lZ6, hlZ6, h⟩ := bnd_s h
    have eZ7 : (sZ1.2.2.map AV.z).set (Int.toNat sZ1.2.1) (.z rZ3) = lZ6.map AV.z := by rw [← hlZ6, List.map_set]
    cases h
    exact ZL (ZA cZ2 (ZA hkZ4a (ZA hkZ4b (ZA hyZ5 eZ7)))) (ZA S_laws_markStringSM1L1.eq_1 (ZA SX_laws_markStringSM1L1.eq_1 hlZ6.symm))
  · cases h
    exact ZL cZ2 (ZA S_laws_markStringSM1L1.eq_1 SX_laws_markStringSM1L1.eq_1)
theorem w_laws_markStringSM1 (aaZ0 : Int) (abZ0 : List ByteArray) {r : Int × List ByteArray} (h : M_laws_markStringSM1 aaZ0 abZ0 = some r) : OkM Tryz.prog 102 [.sl 1000000000 0 abZ0.length, .i aaZ0] [(1000000000, .arr 1 (abZ0.map AV.z))] ((fun (r : Int × List ByteArray) => .i r.1) r) ((fun (r : Int × List ByteArray) => [(1000000000, .arr 1 (r.2.map AV.z))]) r) := by
  refine okM_of_body (lr := [1000000000]) hmix m102M1 rfl rfl ?_
  unfold M_laws_markStringSM1 at h
  simp only [ZC, A102M1, V102M1]
  obtain ⟨oZ8, hoZ8, h⟩ := bind_s h
  try refine ZF trivial ?_
  refine join_rule0 (blk_rule0 (loop_rule (w_laws_markStringSM1L1) hoZ8 ?_)) ?_
  · exact ZK (ZA S_laws_markStringSM1L1.eq_1 SX_laws_markStringSM1L1.eq_1)
  · simp only [ZC, SX_laws_markStringSM1L1, A102M1R2]
    cases h
    exact ZL trivial V102M1.eq_1
def S_laws_markFiberSM1L1 (v : Int × Int × List TFiber) : St := ⟨[(0, .sl 1000000000 0 v.2.2.length), (1, .i v.1), (5, .i v.2.1)], [(1000000000, .arr 4 (v.2.2.map (e_TFiber .u)))]⟩
def SX_laws_markFiberSM1L1 (v : Int × List TFiber) : St := ⟨[(1, .i v.1)], [(1000000000, .arr 4 (v.2.map (e_TFiber .u)))]⟩
theorem w_laws_markFiberSM1L1 (sZ1 : Int × Int × List TFiber) (o : (Int × Int × List TFiber) ⊕ (Int × List TFiber)) (h : M_laws_markFiberSM1L1 sZ1 = some o) : AWP (OkS Tryz.prog) A103M1L1 (qL [0, 1, 5] [1000000000] (S_laws_markFiberSM1L1) (qX 0 [1] [1000000000] (SX_laws_markFiberSM1L1)) o) (S_laws_markFiberSM1L1 sZ1) := by
  unfold M_laws_markFiberSM1L1 at h
  simp only [ZC, S_laws_markFiberSM1L1, A103M1L1]
  obtain ⟨cZ2, h⟩ | ⟨cZ2, h⟩ := cond_s h
  · obtain ⟨kZ3, hkZ3, h⟩ := bind_s h
    obtain ⟨hkZ3a, hkZ3b⟩ := grd_s hkZ3
    obtain ⟨yZ4, hyZ4, h⟩ := bind_s h
    obtain ⟨lZ5, hlZ5, h⟩ := bnd_s h
    have eZ6 : (sZ1.2.2.map (e_TFiber .u)).set (Int.toNat sZ1.2.1) (.agg [.i sZ1.1, .i yZ4.B, .i yZ4.Length, .i yZ4.Risk]) = lZ5.map (e_TFiber .u) := by rw [← hlZ5, List.map_set]; rfl
    obtain ⟨yZ7, hyZ7, h⟩ := bind_s h
    obtain ⟨lZ8, hlZ8, h⟩ := bnd_s h
    have eZ9 : (lZ5.map (e_TFiber .u)).set (Int.toNat sZ1.2.1) (.agg [.i yZ7.A, .i (IntKind.wrap .i64 (sZ1.1 + 1)), .i yZ7.Length, .i yZ7.Risk]) = lZ8.map (e_TFiber .u) := by rw [← hlZ8, List.map_set]; rfl
    obtain ⟨yZ10, hyZ10, h⟩ := bind_s h
    obtain ⟨lZ11, hlZ11, h⟩ := bnd_s h
    have eZ12 : (lZ8.map (e_TFiber .u)).set (Int.toNat sZ1.2.1) (.agg [.i yZ10.A, .i yZ10.B, .i (IntKind.wrap .i64 ((IntKind.wrap .i64 (sZ1.1 + 1)) + 1)), .i yZ10.Risk]) = lZ11.map (e_TFiber .u) := by rw [← hlZ11, List.map_set]; rfl
    obtain ⟨yZ13, hyZ13, h⟩ := bind_s h
    obtain ⟨lZ14, hlZ14, h⟩ := bnd_s h
    have eZ15 : (lZ11.map (e_TFiber .u)).set (Int.toNat sZ1.2.1) (.agg [.i yZ13.A, .i yZ13.B, .i yZ13.Length, .i (IntKind.wrap .i64 ((IntKind.wrap .i64 ((IntKind.wrap .i64 (sZ1.1 + 1)) + 1)) + 1))]) = lZ14.map (e_TFiber .u) := by rw [← hlZ14, List.map_set]; rfl
    cases h
    exact ZL (ZA cZ2 (ZA hkZ3a (ZA hkZ3b (ZA hyZ4 (ZA eZ6 (ZA hyZ7 (ZA eZ9 (ZA hyZ10 (ZA eZ12 (ZA hyZ13 eZ15)))))))))) (ZA S_laws_markFiberSM1L1.eq_1 (ZA SX_laws_markFiberSM1L1.eq_1 (ZA hlZ5.symm (ZA hlZ8.symm (ZA hlZ11.symm hlZ14.symm)))))
  · cases h
    exact ZL cZ2 (ZA S_laws_markFiberSM1L1.eq_1 SX_laws_markFiberSM1L1.eq_1)
theorem w_laws_markFiberSM1 (aaZ0 : Int) (abZ0 : List TFiber) {r : Int × List TFiber} (h : M_laws_markFiberSM1 aaZ0 abZ0 = some r) : OkM Tryz.prog 103 [.sl 1000000000 0 abZ0.length, .i aaZ0] [(1000000000, .arr 4 (abZ0.map (e_TFiber .u)))] ((fun (r : Int × List TFiber) => .i r.1) r) ((fun (r : Int × List TFiber) => [(1000000000, .arr 4 (r.2.map (e_TFiber .u)))]) r) := by
  refine okM_of_body (lr := [1000000000]) hmix m103M1 rfl rfl ?_
  unfold M_laws_markFiberSM1 at h
  simp only [ZC, A103M1, V103M1]
  obtain ⟨oZ16, hoZ16, h⟩ := bind_s h
  try refine ZF trivial ?_
  refine join_rule0 (blk_rule0 (loop_rule (w_laws_markFiberSM1L1) hoZ16 ?_)) ?_
  · exact ZK (ZA S_laws_markFiberSM1L1.eq_1 SX_laws_markFiberSM1L1.eq_1)
  · simp only [ZC, SX_laws_markFiberSM1L1, A103M1R2]
    cases h
    exact ZL trivial V103M1.eq_1
theorem w_laws_markNetworkM1 (aaZ0 : Int) (abZ0 : List ByteArray) (acZ0 : List TFiber) {r : Int × List ByteArray × List TFiber} (h : M_laws_markNetworkM1 aaZ0 abZ0 acZ0 = some r) : OkM Tryz.prog 42 [.agg [.sl 1000000000 0 abZ0.length, .sl 1000000001 0 acZ0.length], .i aaZ0] [(1000000000, .arr 1 (abZ0.map AV.z)), (1000000001, .arr 4 (acZ0.map (e_TFiber .u)))] ((fun (r : Int × List ByteArray × List TFiber) => .i r.1) r) ((fun (r : Int × List ByteArray × List TFiber) => [(1000000000, .arr 1 (r.2.1.map AV.z)), (1000000001, .arr 4 (r.2.2.map (e_TFiber .u)))]) r) := by
  refine okM_of_body (lr := [1000000000, 1000000001]) hmix m42M1 rfl rfl ?_
  unfold M_laws_markNetworkM1 at h
  simp only [ZC, A42M1, V42M1]
  obtain ⟨rZ1, hrZ1, h⟩ := bind_s h
  refine ZF trivial ?_
  refine ZW trivial (w_laws_markStringSM1 _ _ hrZ1) (h2 := by first | exact nm_ok [1000000000] rfl (by decide +kernel) | exact nm_ok2 [1000000000] [] rfl (by decide +kernel) ZQ | exact ZQ) (hk := ?_)
  refine ZG ?_
  obtain ⟨rZ2, hrZ2, h⟩ := bind_s h
  refine ZF trivial ?_
  refine ZW trivial (w_laws_markFiberSM1 _ _ hrZ2) (h2 := by first | exact nm_ok [1000000000] rfl (by decide +kernel) | exact nm_ok2 [1000000000] [] rfl (by decide +kernel) ZQ | exact ZQ) (hk := ?_)
  refine ZG ?_
  cases h
  exact ZL trivial V42M1.eq_1
def S_laws_markIntSM1L1 (v : Int × Int × List Int) : St := ⟨[(0, .sl 1000000000 0 v.2.2.length), (1, .i v.1), (5, .i v.2.1)], [(1000000000, .arr 1 (v.2.2.map AV.i))]⟩
def SX_laws_markIntSM1L1 (v : Int × List Int) : St := ⟨[(1, .i v.1)], [(1000000000, .arr 1 (v.2.map AV.i))]⟩
theorem w_laws_markIntSM1L1 (sZ1 : Int × Int × List Int) (o : (Int × Int × List Int) ⊕ (Int × List Int)) (h : M_laws_markIntSM1L1 sZ1 = some o) : AWP (OkS Tryz.prog) A22M1L1 (qL [0, 1, 5] [1000000000] (S_laws_markIntSM1L1) (qX 0 [1] [1000000000] (SX_laws_markIntSM1L1)) o) (S_laws_markIntSM1L1 sZ1) := by
  unfold M_laws_markIntSM1L1 at h
  simp only [ZC, S_laws_markIntSM1L1, A22M1L1]
  obtain ⟨cZ2, h⟩ | ⟨cZ2, h⟩ := cond_s h
  · obtain ⟨kZ3, hkZ3, h⟩ := bind_s h
    obtain ⟨hkZ3a, hkZ3b⟩ := grd_s hkZ3
    obtain ⟨yZ4, hyZ4, h⟩ := bind_s h
    obtain ⟨lZ5, hlZ5, h⟩ := bnd_s h
    have eZ6 : (sZ1.2.2.map AV.i).set (Int.toNat sZ1.2.1) (.i sZ1.1) = lZ5.map AV.i := by rw [← hlZ5, List.map_set]
    cases h
    exact ZL (ZA cZ2 (ZA hkZ3a (ZA hkZ3b (ZA hyZ4 eZ6)))) (ZA S_laws_markIntSM1L1.eq_1 (ZA SX_laws_markIntSM1L1.eq_1 hlZ5.symm))
  · cases h
    exact ZL cZ2 (ZA S_laws_markIntSM1L1.eq_1 SX_laws_markIntSM1L1.eq_1)
theorem w_laws_markIntSM1 (aaZ0 : Int) (abZ0 : List Int) {r : Int × List Int} (h : M_laws_markIntSM1 aaZ0 abZ0 = some r) : OkM Tryz.prog 22 [.sl 1000000000 0 abZ0.length, .i aaZ0] [(1000000000, .arr 1 (abZ0.map AV.i))] ((fun (r : Int × List Int) => .i r.1) r) ((fun (r : Int × List Int) => [(1000000000, .arr 1 (r.2.map AV.i))]) r) := by
  refine okM_of_body (lr := [1000000000]) hmix m22M1 rfl rfl ?_
  unfold M_laws_markIntSM1 at h
  simp only [ZC, A22M1, V22M1]
  obtain ⟨oZ7, hoZ7, h⟩ := bind_s h
  try refine ZF trivial ?_
  refine join_rule0 (blk_rule0 (loop_rule (w_laws_markIntSM1L1) hoZ7 ?_)) ?_
  · exact ZK (ZA S_laws_markIntSM1L1.eq_1 SX_laws_markIntSM1L1.eq_1)
  · simp only [ZC, SX_laws_markIntSM1L1, A22M1R2]
    cases h
    exact ZL trivial V22M1.eq_1
def S_laws_markLightSM1L1 (v : Int × Int × List TLight) : St := ⟨[(0, .sl 1000000000 0 v.2.2.length), (1, .i v.1), (5, .i v.2.1)], [(1000000000, .arr 5 (v.2.2.map (e_TLight .u)))]⟩
def SX_laws_markLightSM1L1 (v : Int × List TLight) : St := ⟨[(1, .i v.1)], [(1000000000, .arr 5 (v.2.map (e_TLight .u)))]⟩
theorem w_laws_markLightSM1L1 (sZ1 : Int × Int × List TLight) (o : (Int × Int × List TLight) ⊕ (Int × List TLight)) (h : M_laws_markLightSM1L1 sZ1 = some o) : AWP (OkS Tryz.prog) A73M1L1 (qL [0, 1, 5] [1000000000] (S_laws_markLightSM1L1) (qX 0 [1] [1000000000] (SX_laws_markLightSM1L1)) o) (S_laws_markLightSM1L1 sZ1) := by
  unfold M_laws_markLightSM1L1 at h
  simp only [ZC, S_laws_markLightSM1L1, A73M1L1]
  obtain ⟨cZ2, h⟩ | ⟨cZ2, h⟩ := cond_s h
  · obtain ⟨kZ3, hkZ3, h⟩ := bind_s h
    obtain ⟨hkZ3a, hkZ3b⟩ := grd_s hkZ3
    obtain ⟨yZ4, hyZ4, h⟩ := bind_s h
    obtain ⟨lZ5, hlZ5, h⟩ := bnd_s h
    have eZ6 : (sZ1.2.2.map (e_TLight .u)).set (Int.toNat sZ1.2.1) (.agg [.i sZ1.1, .i yZ4.Route.Start, .lst .u 1 (yZ4.Route.Fibers.map AV.i), .i yZ4.Block.First, .i yZ4.Block.Count]) = lZ5.map (e_TLight .u) := by rw [← hlZ5, List.map_set]; rfl
    obtain ⟨yZ7, hyZ7, h⟩ := bind_s h
    obtain ⟨lZ8, hlZ8, h⟩ := bnd_s h
    have eZ9 : (lZ5.map (e_TLight .u)).set (Int.toNat sZ1.2.1) (.agg [.i yZ7.Id, .i (IntKind.wrap .i64 (sZ1.1 + 1)), .lst .u 1 (yZ7.Route.Fibers.map AV.i), .i yZ7.Block.First, .i yZ7.Block.Count]) = lZ8.map (e_TLight .u) := by rw [← hlZ8, List.map_set]; rfl
    obtain ⟨yZ10, hyZ10, h⟩ := bind_s h
    obtain ⟨rZ11, hrZ11, h⟩ := bind_s h
    obtain ⟨lZ12, hlZ12, h⟩ := bnd_s h
    have eZ13 : (lZ8.map (e_TLight .u)).set (Int.toNat sZ1.2.1) (.agg [.i yZ10.Id, .i yZ10.Route.Start, .lst .u 1 (rZ11.2.map AV.i), .i yZ10.Block.First, .i yZ10.Block.Count]) = lZ12.map (e_TLight .u) := by rw [← hlZ12, List.map_set]; rfl
    refine ZF (ZA cZ2 (ZA hkZ3a (ZA hkZ3b (ZA hyZ4 (ZA eZ6 (ZA hyZ7 (ZA eZ9 hyZ10))))))) ?_
    refine inn_s (v := .int .i64 rZ11.1) (ys' := rZ11.2.map AV.i) (z := .agg [.i yZ10.Id, .i yZ10.Route.Start, .lst .u 1 (rZ11.2.map AV.i), .i yZ10.Block.First, .i yZ10.Block.Count]) (by simp only [VS1, VS2, VS3, VS4, VS5, VS6, VT1, VT2, finM_ret, finM_nrm, decide_true, decide_false, List.nodup_nil, List.nodup_cons, oks_p, oks_m, oks_h, ne_eq, not_false_eq_true, Int.reduceEq, Int.reduceNe, true_and, false_and, Nat.reduceSub, Nat.reduceMul, ↓reduceIte, reduceCtorEq, Nat.reduceEqDiff, Nat.reduceAdd, Nat.reduceLeDiff, Int.reduceLE, cZ2, hkZ3a, hkZ3b, hyZ4, eZ6, hyZ7, eZ9, hyZ10]; exact w_laws_markIntSM1 _ _ hrZ11) (by simp [AV.flat, VT1, VT2]) (by simp [fz_mk, fz_sc, fz_lsto, fz_agg, fz_tup, fz_fn, fz_sl, fz_pt, fz_top, fzL_nil, fzL_cons, ou_sc, ou_lstu, ou_lsto, ou_agg, ouL_nil, ouL_cons, rfz_var, rfz_arr, rfz_dead, fzL_mi, fzL_mb, fzL_mz, fzL_m8, fzL_m64, ouL_m8, ouL_m64, ouL_mi, ouL_mb, ouL_mz, VZ1]) (by simp [VS1, VS2, VS3, VS4, VS5, VS6, VT1, VT2]) (by simp [AV.flat, VT1, VT2]) rfl ?_
    refine ZG ?_
    obtain ⟨yZ14, hyZ14, h⟩ := bind_s h
    obtain ⟨lZ15, hlZ15, h⟩ := bnd_s h
    have eZ16 : (lZ12.map (e_TLight .u)).set (Int.toNat sZ1.2.1) (.agg [.i yZ14.Id, .i yZ14.Route.Start, .lst .u 1 (yZ14.Route.Fibers.map AV.i), .i rZ11.1, .i yZ14.Block.Count]) = lZ15.map (e_TLight .u) := by rw [← hlZ15, List.map_set]; rfl
    obtain ⟨yZ17, hyZ17, h⟩ := bind_s h
    obtain ⟨lZ18, hlZ18, h⟩ := bnd_s h
    have eZ19 : (lZ15.map (e_TLight .u)).set (Int.toNat sZ1.2.1) (.agg [.i yZ17.Id, .i yZ17.Route.Start, .lst .u 1 (yZ17.Route.Fibers.map AV.i), .i yZ17.Block.First, .i (IntKind.wrap .i64 (rZ11.1 + 1))]) = lZ18.map (e_TLight .u) := by rw [← hlZ18, List.map_set]; rfl
    cases h
    exact ZL (ZA cZ2 (ZA hkZ3a (ZA hkZ3b (ZA hyZ4 (ZA eZ6 (ZA hyZ7 (ZA eZ9 (ZA hyZ10 (ZA eZ13 (ZA hyZ14 (ZA eZ16 (ZA hyZ17 eZ19)))))))))))) (ZA S_laws_markLightSM1L1.eq_1 (ZA SX_laws_markLightSM1L1.eq_1 (ZA hlZ5.symm (ZA hlZ8.symm (ZA hlZ12.symm (ZA hlZ15.symm hlZ18.symm))))))
  · cases h
    exact ZL cZ2 (ZA S_laws_markLightSM1L1.eq_1 SX_laws_markLightSM1L1.eq_1)
theorem w_laws_markLightSM1 (aaZ0 : Int) (abZ0 : List TLight) {r : Int × List TLight} (h : M_laws_markLightSM1 aaZ0 abZ0 = some r) : OkH Tryz.prog 73 [.sl 1000000000 0 abZ0.length, .i aaZ0] [(1000000000, .arr 5 (abZ0.map (e_TLight .u)))] ((fun (r : Int × List TLight) => .i r.1) r) ((fun (r : Int × List TLight) => [(1000000000, .arr 5 (r.2.map (e_TLight .u)))]) r) := by
  refine okH_of_body (lr := [1000000000]) hmix m73M1 rfl ?_
  unfold M_laws_markLightSM1 at h
  simp only [ZC, A73M1, V73M1]
  obtain ⟨oZ20, hoZ20, h⟩ := bind_s h
  try refine ZF trivial ?_
  refine join_rule0 (blk_rule0 (loop_rule (w_laws_markLightSM1L1) hoZ20 ?_)) ?_
  · exact ZK (ZA S_laws_markLightSM1L1.eq_1 SX_laws_markLightSM1L1.eq_1)
  · simp only [ZC, SX_laws_markLightSM1L1, A73M1R2]
    cases h
    exact ZL trivial V73M1.eq_1
theorem w_laws_markPlanM1 (aaZ0 : Int) (abZ0 : List ByteArray) (acZ0 : List TFiber) (adZ0 : List TLight) {r : Int × List ByteArray × List TFiber × List TLight} (h : M_laws_markPlanM1 aaZ0 abZ0 acZ0 adZ0 = some r) : OkH Tryz.prog 29 [.agg [.sl 1000000000 0 abZ0.length, .sl 1000000001 0 acZ0.length, .sl 1000000002 0 adZ0.length], .i aaZ0] [(1000000000, .arr 1 (abZ0.map AV.z)), (1000000001, .arr 4 (acZ0.map (e_TFiber .u))), (1000000002, .arr 5 (adZ0.map (e_TLight .u)))] ((fun (r : Int × List ByteArray × List TFiber × List TLight) => .i r.1) r) ((fun (r : Int × List ByteArray × List TFiber × List TLight) => [(1000000000, .arr 1 (r.2.1.map AV.z)), (1000000001, .arr 4 (r.2.2.1.map (e_TFiber .u))), (1000000002, .arr 5 (r.2.2.2.map (e_TLight .u)))]) r) := by
  refine okH_of_body (lr := [1000000000, 1000000001, 1000000002]) hmix m29M1 rfl ?_
  unfold M_laws_markPlanM1 at h
  simp only [ZC, A29M1, V29M1]
  obtain ⟨rZ1, hrZ1, h⟩ := bind_s h
  refine ZF trivial ?_
  refine ZW trivial (w_laws_markNetworkM1 _ _ _ hrZ1) (h2 := by first | exact nm_ok [1000000000, 1000000001] rfl (by decide +kernel) | exact nm_ok2 [1000000000, 1000000001] [] rfl (by decide +kernel) ZQ | exact ZQ) (hk := ?_)
  refine ZG ?_
  obtain ⟨rZ2, hrZ2, h⟩ := bind_s h
  refine ZF trivial ?_
  refine ⟨by simp [fz_mk, fz_sc, fz_lsto, fz_agg, fz_tup, fz_fn, fz_sl, fz_pt, fz_top, fzL_nil, fzL_cons, ou_sc, ou_lstu, ou_lsto, ou_agg, ouL_nil, ouL_cons, rfz_var, rfz_arr, rfz_dead, fzL_mi, fzL_mb, fzL_mz, fzL_m8, fzL_m64, ouL_m8, ouL_m64, ouL_mi, ouL_mb, ouL_mz, VZ1], call_m (ok := ⟨_, _, _⟩) (by simp only [VS1, VS2, VS3, VS4, VS5, VS6, VT1, VT2, finM_ret, finM_nrm, decide_true, decide_false, List.nodup_nil, List.nodup_cons, oks_p, oks_m, oks_h, ne_eq, not_false_eq_true, Int.reduceEq, Int.reduceNe, true_and, false_and, Nat.reduceSub, Nat.reduceMul, ↓reduceIte, reduceCtorEq, Nat.reduceEqDiff, Nat.reduceAdd, Nat.reduceLeDiff, Int.reduceLE]; first | exact w_laws_markLightSM1 _ _ hrZ2 | (have hw := w_laws_markLightSM1 _ _ hrZ2; simp only [VS1, VS2, VS3, VS4, VS5, VS6, VT1, VT2, finM_ret, finM_nrm, decide_true, decide_false, List.nodup_nil, List.nodup_cons, oks_p, oks_m, oks_h, ne_eq, not_false_eq_true, Int.reduceEq, Int.reduceNe, true_and, false_and, Nat.reduceSub, Nat.reduceMul, ↓reduceIte, reduceCtorEq, Nat.reduceEqDiff, Nat.reduceAdd, Nat.reduceLeDiff, Int.reduceLE] at hw; exact hw)) (by simp [VS1, VS2, VS3, VS4, VS5, VS6, VT1, VT2]) (by first | exact nm_ok [1000000000] rfl (by decide +kernel) | exact nm_ok2 [1000000000] [] rfl (by decide +kernel) (by simp [VS1, VS2, VS3, VS4, VS5, VS6, VT1, VT2]) | simp [VS1, VS2, VS3, VS4, VS5, VS6, VT1, VT2]) ?_⟩
  refine ZG ?_
  cases h
  exact ZL trivial V29M1.eq_1
theorem w_laws_markRestorationM1 (aaZ0 : Int) (abZ0 : List ByteArray) (acZ0 : List TFiber) (adZ0 : List TLight) (aeZ0 : List TLight) (afZ0 : List Int) {r : Int × List ByteArray × List TFiber × List TLight × List TLight × List Int} (h : M_laws_markRestorationM1 aaZ0 abZ0 acZ0 adZ0 aeZ0 afZ0 = some r) : OkH Tryz.prog 21 [.agg [.sl 1000000000 0 abZ0.length, .sl 1000000001 0 acZ0.length, .sl 1000000002 0 adZ0.length, .sl 1000000003 0 aeZ0.length, .sl 1000000004 0 afZ0.length], .i aaZ0] [(1000000000, .arr 1 (abZ0.map AV.z)), (1000000001, .arr 4 (acZ0.map (e_TFiber .u))), (1000000002, .arr 5 (adZ0.map (e_TLight .u))), (1000000003, .arr 5 (aeZ0.map (e_TLight .u))), (1000000004, .arr 1 (afZ0.map AV.i))] ((fun (r : Int × List ByteArray × List TFiber × List TLight × List TLight × List Int) => .i r.1) r) ((fun (r : Int × List ByteArray × List TFiber × List TLight × List TLight × List Int) => [(1000000000, .arr 1 (r.2.1.map AV.z)), (1000000001, .arr 4 (r.2.2.1.map (e_TFiber .u))), (1000000002, .arr 5 (r.2.2.2.1.map (e_TLight .u))), (1000000003, .arr 5 (r.2.2.2.2.1.map (e_TLight .u))), (1000000004, .arr 1 (r.2.2.2.2.2.map AV.i))]) r) := by
  refine okH_of_body (lr := [1000000000, 1000000001, 1000000002, 1000000003, 1000000004]) hmix m21M1 rfl ?_
  unfold M_laws_markRestorationM1 at h
  simp only [ZC, A21M1, V21M1]
  obtain ⟨rZ1, hrZ1, h⟩ := bind_s h
  refine ZF trivial ?_
  refine ⟨by simp [fz_mk, fz_sc, fz_lsto, fz_agg, fz_tup, fz_fn, fz_sl, fz_pt, fz_top, fzL_nil, fzL_cons, ou_sc, ou_lstu, ou_lsto, ou_agg, ouL_nil, ouL_cons, rfz_var, rfz_arr, rfz_dead, fzL_mi, fzL_mb, fzL_mz, fzL_m8, fzL_m64, ouL_m8, ouL_m64, ouL_mi, ouL_mb, ouL_mz, VZ1], call_m (ok := ⟨_, _, _⟩) (by simp only [VS1, VS2, VS3, VS4, VS5, VS6, VT1, VT2, finM_ret, finM_nrm, decide_true, decide_false, List.nodup_nil, List.nodup_cons, oks_p, oks_m, oks_h, ne_eq, not_false_eq_true, Int.reduceEq, Int.reduceNe, true_and, false_and, Nat.reduceSub, Nat.reduceMul, ↓reduceIte, reduceCtorEq, Nat.reduceEqDiff, Nat.reduceAdd, Nat.reduceLeDiff, Int.reduceLE]; first | exact w_laws_markPlanM1 _ _ _ _ hrZ1 | (have hw := w_laws_markPlanM1 _ _ _ _ hrZ1; simp only [VS1, VS2, VS3, VS4, VS5, VS6, VT1, VT2, finM_ret, finM_nrm, decide_true, decide_false, List.nodup_nil, List.nodup_cons, oks_p, oks_m, oks_h, ne_eq, not_false_eq_true, Int.reduceEq, Int.reduceNe, true_and, false_and, Nat.reduceSub, Nat.reduceMul, ↓reduceIte, reduceCtorEq, Nat.reduceEqDiff, Nat.reduceAdd, Nat.reduceLeDiff, Int.reduceLE] at hw; exact hw)) (by simp [VS1, VS2, VS3, VS4, VS5, VS6, VT1, VT2]) (by first | exact nm_ok [1000000000, 1000000001, 1000000002] rfl (by decide +kernel) | exact nm_ok2 [1000000000, 1000000001, 1000000002] [] rfl (by decide +kernel) (by simp [VS1, VS2, VS3, VS4, VS5, VS6, VT1, VT2]) | simp [VS1, VS2, VS3, VS4, VS5, VS6, VT1, VT2]) ?_⟩
  refine ZG ?_
  obtain ⟨rZ2, hrZ2, h⟩ := bind_s h
  refine ZF trivial ?_
  refine ⟨by simp [fz_mk, fz_sc, fz_lsto, fz_agg, fz_tup, fz_fn, fz_sl, fz_pt, fz_top, fzL_nil, fzL_cons, ou_sc, ou_lstu, ou_lsto, ou_agg, ouL_nil, ouL_cons, rfz_var, rfz_arr, rfz_dead, fzL_mi, fzL_mb, fzL_mz, fzL_m8, fzL_m64, ouL_m8, ouL_m64, ouL_mi, ouL_mb, ouL_mz, VZ1], call_m (ok := ⟨_, _, _⟩) (by simp only [VS1, VS2, VS3, VS4, VS5, VS6, VT1, VT2, finM_ret, finM_nrm, decide_true, decide_false, List.nodup_nil, List.nodup_cons, oks_p, oks_m, oks_h, ne_eq, not_false_eq_true, Int.reduceEq, Int.reduceNe, true_and, false_and, Nat.reduceSub, Nat.reduceMul, ↓reduceIte, reduceCtorEq, Nat.reduceEqDiff, Nat.reduceAdd, Nat.reduceLeDiff, Int.reduceLE]; first | exact w_laws_markLightSM1 _ _ hrZ2 | (have hw := w_laws_markLightSM1 _ _ hrZ2; simp only [VS1, VS2, VS3, VS4, VS5, VS6, VT1, VT2, finM_ret, finM_nrm, decide_true, decide_false, List.nodup_nil, List.nodup_cons, oks_p, oks_m, oks_h, ne_eq, not_false_eq_true, Int.reduceEq, Int.reduceNe, true_and, false_and, Nat.reduceSub, Nat.reduceMul, ↓reduceIte, reduceCtorEq, Nat.reduceEqDiff, Nat.reduceAdd, Nat.reduceLeDiff, Int.reduceLE] at hw; exact hw)) (by simp [VS1, VS2, VS3, VS4, VS5, VS6, VT1, VT2]) (by first | exact nm_ok [1000000000] rfl (by decide +kernel) | exact nm_ok2 [1000000000] [] rfl (by decide +kernel) (by simp [VS1, VS2, VS3, VS4, VS5, VS6, VT1, VT2]) | simp [VS1, VS2, VS3, VS4, VS5, VS6, VT1, VT2]) ?_⟩
  refine ZG ?_
  obtain ⟨rZ3, hrZ3, h⟩ := bind_s h
  refine ZF trivial ?_
  refine ZW trivial (w_laws_markIntSM1 _ _ hrZ3) (h2 := by first | exact nm_ok [1000000000] rfl (by decide +kernel) | exact nm_ok2 [1000000000] [] rfl (by decide +kernel) ZQ | exact ZQ) (hk := ?_)
  refine ZG ?_
  cases h
  exact ZL trivial V21M1.eq_1
def S_laws_heldStringSL1 (aZ0 : List ByteArray) (v : Int × Int) : St := ⟨[(0, .lst .o 1 (aZ0.map AV.z)), (1, .i v.1), (5, .i v.2)], []⟩
def SX_laws_heldStringSL1 (v : Int) : St := ⟨[(1, .i v)], []⟩
theorem w_laws_heldStringSL1 (aZ0 : List ByteArray) (sZ1 : Int × Int) (o : (Int × Int) ⊕ (Int ⊕ Int)) (h : M_laws_heldStringSL1 aZ0 sZ1 = some o) : AWP (OkS Tryz.prog) A162L1 (qL [0, 1, 5] [] (S_laws_heldStringSL1 aZ0) (qS (qX 0 [1] [] (SX_laws_heldStringSL1)) (qR V162 (fun r => .i r))) o) (S_laws_heldStringSL1 aZ0 sZ1) := by
  unfold M_laws_heldStringSL1 at h
  simp only [ZC, S_laws_heldStringSL1, A162L1]
  obtain ⟨cZ2, h⟩ | ⟨cZ2, h⟩ := cond_s h
  · obtain ⟨yZ3, hyZ3, h⟩ := bind_s h
    obtain ⟨hyZ3a, hyZ3b⟩ := geti_s hyZ3
    obtain ⟨rZ4, hrZ4, h⟩ := bind_s h
    refine ZF (ZA cZ2 (ZA hyZ3a hyZ3b)) ?_
    refine ZS (ZA cZ2 (ZA hyZ3a hyZ3b)) (w_laws_markText _ hrZ4) ?_
    refine ZG ?_
    obtain ⟨cZ5, h⟩ | ⟨cZ5, h⟩ := cond_s h
    · cases h
      exact ZL (ZA cZ2 (ZA hyZ3a (ZA hyZ3b cZ5))) V162.eq_1
    · cases h
      exact ZL (ZA cZ2 (ZA hyZ3a (ZA hyZ3b cZ5))) (ZA S_laws_heldStringSL1.eq_1 SX_laws_heldStringSL1.eq_1)
  · cases h
    exact ZL cZ2 (ZA S_laws_heldStringSL1.eq_1 SX_laws_heldStringSL1.eq_1)
theorem w_laws_heldStringS (aZ0 : List ByteArray) (kZ0 : Int) {r : Int} (h : M_laws_heldStringS aZ0 kZ0 = some r) : Ok Tryz.prog 162 [.lst .o 1 (aZ0.map AV.z), .i kZ0] ((fun r => .i r) r) := by
  refine ok_of_body hmix m162 rfl ?_
  unfold M_laws_heldStringS at h
  simp only [ZC, A162, V162, body_eq]
  obtain ⟨oZ6, hoZ6, h⟩ := bind_s h
  try refine ZF trivial ?_
  refine join_rule (o := oZ6) (blk_rule sideR (loop_rule (w_laws_heldStringSL1 aZ0) hoZ6 ?_)) (fun vZ7 hv => ?_) (fun xZ8 hv e τ hne hq => ?_)
  · exact ZK (ZA S_laws_heldStringSL1.eq_1 SX_laws_heldStringSL1.eq_1)
  · subst hv
    simp only [] at h
    simp only [ZC, SX_laws_heldStringSL1, A162R2]
    cases h
    exact ZL trivial V162.eq_1
  · subst hv
    simp only [] at h
    obtain ⟨rfl, qZ9⟩ := hq
    cases h
    exact qZ9
def S_laws_heldFiberSL1 (aZ0 : List TFiber) (v : Int × Int) : St := ⟨[(0, .lst .o 4 (aZ0.map (e_TFiber .o))), (1, .i v.1), (5, .i v.2)], []⟩
def SX_laws_heldFiberSL1 (v : Int) : St := ⟨[(1, .i v)], []⟩
theorem w_laws_heldFiberSL1 (aZ0 : List TFiber) (sZ1 : Int × Int) (o : (Int × Int) ⊕ (Int ⊕ Int)) (h : M_laws_heldFiberSL1 aZ0 sZ1 = some o) : AWP (OkS Tryz.prog) A163L1 (qL [0, 1, 5] [] (S_laws_heldFiberSL1 aZ0) (qS (qX 0 [1] [] (SX_laws_heldFiberSL1)) (qR V163 (fun r => .i r))) o) (S_laws_heldFiberSL1 aZ0 sZ1) := by
  unfold M_laws_heldFiberSL1 at h
  simp only [ZC, S_laws_heldFiberSL1, A163L1]
  obtain ⟨cZ2, h⟩ | ⟨cZ2, h⟩ := cond_s h
  · obtain ⟨yZ3, hyZ3, h⟩ := bind_s h
    obtain ⟨hyZ3a, hyZ3b⟩ := geti_s hyZ3
    obtain ⟨cZ4, h⟩ | ⟨cZ4, h⟩ := cond_s h
    · cases h
      exact ZL (ZA cZ2 (ZA hyZ3a (ZA hyZ3b cZ4))) V163.eq_1
    · obtain ⟨cZ5, h⟩ | ⟨cZ5, h⟩ := cond_s h
      · cases h
        exact ZL (ZA cZ2 (ZA hyZ3a (ZA hyZ3b (ZA cZ4 cZ5)))) V163.eq_1
      · obtain ⟨cZ6, h⟩ | ⟨cZ6, h⟩ := cond_s h
        · cases h
          exact ZL (ZA cZ2 (ZA hyZ3a (ZA hyZ3b (ZA cZ4 (ZA cZ5 cZ6))))) V163.eq_1
        · obtain ⟨cZ7, h⟩ | ⟨cZ7, h⟩ := cond_s h
          · cases h
            exact ZL (ZA cZ2 (ZA hyZ3a (ZA hyZ3b (ZA cZ4 (ZA cZ5 (ZA cZ6 cZ7)))))) V163.eq_1
          · cases h
            exact ZL (ZA cZ2 (ZA hyZ3a (ZA hyZ3b (ZA cZ4 (ZA cZ5 (ZA cZ6 cZ7)))))) (ZA S_laws_heldFiberSL1.eq_1 SX_laws_heldFiberSL1.eq_1)
  · cases h
    exact ZL cZ2 (ZA S_laws_heldFiberSL1.eq_1 SX_laws_heldFiberSL1.eq_1)
theorem w_laws_heldFiberS (aZ0 : List TFiber) (kZ0 : Int) {r : Int} (h : M_laws_heldFiberS aZ0 kZ0 = some r) : Ok Tryz.prog 163 [.lst .o 4 (aZ0.map (e_TFiber .o)), .i kZ0] ((fun r => .i r) r) := by
  refine ok_of_body hmix m163 rfl ?_
  unfold M_laws_heldFiberS at h
  simp only [ZC, A163, V163, body_eq]
  obtain ⟨oZ8, hoZ8, h⟩ := bind_s h
  try refine ZF trivial ?_
  refine join_rule (o := oZ8) (blk_rule sideR (loop_rule (w_laws_heldFiberSL1 aZ0) hoZ8 ?_)) (fun vZ9 hv => ?_) (fun xZ10 hv e τ hne hq => ?_)
  · exact ZK (ZA S_laws_heldFiberSL1.eq_1 SX_laws_heldFiberSL1.eq_1)
  · subst hv
    simp only [] at h
    simp only [ZC, SX_laws_heldFiberSL1, A163R2]
    cases h
    exact ZL trivial V163.eq_1
  · subst hv
    simp only [] at h
    obtain ⟨rfl, qZ11⟩ := hq
    cases h
    exact qZ11
theorem w_laws_heldNetwork (aZ0 : TNetwork) (kZ0 : Int) {r : Int} (h : M_laws_heldNetwork aZ0 kZ0 = some r) : Ok Tryz.prog 104 [.agg [.lst .o 1 (aZ0.Nodes.map AV.z), .lst .o 4 (aZ0.Fibers.map (e_TFiber .o))], .i kZ0] ((fun r => .i r) r) := by
  refine ok_of_body hmix m104 rfl ?_
  unfold M_laws_heldNetwork at h
  simp only [ZC, A104, V104, body_eq]
  obtain ⟨rZ1, hrZ1, h⟩ := bind_s h
  refine ZF trivial ?_
  refine ZS trivial (w_laws_heldStringS _ _ hrZ1) ?_
  refine ZG ?_
  obtain ⟨cZ2, h⟩ | ⟨cZ2, h⟩ := cond_s h
  · cases h
    exact ZL cZ2 V104.eq_1
  · obtain ⟨rZ3, hrZ3, h⟩ := bind_s h
    refine ZF cZ2 ?_
    refine ZS cZ2 (w_laws_heldFiberS _ _ hrZ3) ?_
    refine ZG ?_
    obtain ⟨cZ4, h⟩ | ⟨cZ4, h⟩ := cond_s h
    · cases h
      exact ZL (ZA cZ2 cZ4) V104.eq_1
    · cases h
      exact ZL (ZA cZ2 cZ4) V104.eq_1
def S_laws_heldIntSL1 (aZ0 : List Int) (v : Int × Int) : St := ⟨[(0, .lst .o 1 (aZ0.map AV.i)), (1, .i v.1), (5, .i v.2)], []⟩
def SX_laws_heldIntSL1 (v : Int) : St := ⟨[(1, .i v)], []⟩
theorem w_laws_heldIntSL1 (aZ0 : List Int) (sZ1 : Int × Int) (o : (Int × Int) ⊕ (Int ⊕ Int)) (h : M_laws_heldIntSL1 aZ0 sZ1 = some o) : AWP (OkS Tryz.prog) A23L1 (qL [0, 1, 5] [] (S_laws_heldIntSL1 aZ0) (qS (qX 0 [1] [] (SX_laws_heldIntSL1)) (qR V23 (fun r => .i r))) o) (S_laws_heldIntSL1 aZ0 sZ1) := by
  unfold M_laws_heldIntSL1 at h
  simp only [ZC, S_laws_heldIntSL1, A23L1]
  obtain ⟨cZ2, h⟩ | ⟨cZ2, h⟩ := cond_s h
  · obtain ⟨yZ3, hyZ3, h⟩ := bind_s h
    obtain ⟨hyZ3a, hyZ3b⟩ := geti_s hyZ3
    obtain ⟨cZ4, h⟩ | ⟨cZ4, h⟩ := cond_s h
    · cases h
      exact ZL (ZA cZ2 (ZA hyZ3a (ZA hyZ3b cZ4))) V23.eq_1
    · cases h
      exact ZL (ZA cZ2 (ZA hyZ3a (ZA hyZ3b cZ4))) (ZA S_laws_heldIntSL1.eq_1 SX_laws_heldIntSL1.eq_1)
  · cases h
    exact ZL cZ2 (ZA S_laws_heldIntSL1.eq_1 SX_laws_heldIntSL1.eq_1)
theorem w_laws_heldIntS (aZ0 : List Int) (kZ0 : Int) {r : Int} (h : M_laws_heldIntS aZ0 kZ0 = some r) : Ok Tryz.prog 23 [.lst .o 1 (aZ0.map AV.i), .i kZ0] ((fun r => .i r) r) := by
  refine ok_of_body hmix m23 rfl ?_
  unfold M_laws_heldIntS at h
  simp only [ZC, A23, V23, body_eq]
  obtain ⟨oZ5, hoZ5, h⟩ := bind_s h
  try refine ZF trivial ?_
  refine join_rule (o := oZ5) (blk_rule sideR (loop_rule (w_laws_heldIntSL1 aZ0) hoZ5 ?_)) (fun vZ6 hv => ?_) (fun xZ7 hv e τ hne hq => ?_)
  · exact ZK (ZA S_laws_heldIntSL1.eq_1 SX_laws_heldIntSL1.eq_1)
  · subst hv
    simp only [] at h
    simp only [ZC, SX_laws_heldIntSL1, A23R2]
    cases h
    exact ZL trivial V23.eq_1
  · subst hv
    simp only [] at h
    obtain ⟨rfl, qZ8⟩ := hq
    cases h
    exact qZ8
def S_laws_heldLightSL1 (aZ0 : List TLight) (v : Int × Int) : St := ⟨[(0, .lst .o 5 (aZ0.map (e_TLight .o))), (1, .i v.1), (5, .i v.2)], []⟩
def SX_laws_heldLightSL1 (v : Int) : St := ⟨[(1, .i v)], []⟩
theorem w_laws_heldLightSL1 (aZ0 : List TLight) (sZ1 : Int × Int) (o : (Int × Int) ⊕ (Int ⊕ Int)) (h : M_laws_heldLightSL1 aZ0 sZ1 = some o) : AWP (OkS Tryz.prog) A78L1 (qL [0, 1, 5] [] (S_laws_heldLightSL1 aZ0) (qS (qX 0 [1] [] (SX_laws_heldLightSL1)) (qR V78 (fun r => .i r))) o) (S_laws_heldLightSL1 aZ0 sZ1) := by
  unfold M_laws_heldLightSL1 at h
  simp only [ZC, S_laws_heldLightSL1, A78L1]
  obtain ⟨cZ2, h⟩ | ⟨cZ2, h⟩ := cond_s h
  · obtain ⟨yZ3, hyZ3, h⟩ := bind_s h
    obtain ⟨hyZ3a, hyZ3b⟩ := geti_s hyZ3
    obtain ⟨cZ4, h⟩ | ⟨cZ4, h⟩ := cond_s h
    · cases h
      exact ZL (ZA cZ2 (ZA hyZ3a (ZA hyZ3b cZ4))) V78.eq_1
    · obtain ⟨cZ5, h⟩ | ⟨cZ5, h⟩ := cond_s h
      · cases h
        exact ZL (ZA cZ2 (ZA hyZ3a (ZA hyZ3b (ZA cZ4 cZ5)))) V78.eq_1
      · obtain ⟨rZ6, hrZ6, h⟩ := bind_s h
        refine ZF (ZA cZ2 (ZA hyZ3a (ZA hyZ3b (ZA cZ4 cZ5)))) ?_
        refine ZS (ZA cZ2 (ZA hyZ3a (ZA hyZ3b (ZA cZ4 cZ5)))) (w_laws_heldIntS _ _ hrZ6) ?_
        refine ZG ?_
        obtain ⟨cZ7, h⟩ | ⟨cZ7, h⟩ := cond_s h
        · cases h
          exact ZL (ZA cZ2 (ZA hyZ3a (ZA hyZ3b (ZA cZ4 (ZA cZ5 cZ7))))) V78.eq_1
        · obtain ⟨cZ8, h⟩ | ⟨cZ8, h⟩ := cond_s h
          · cases h
            exact ZL (ZA cZ2 (ZA hyZ3a (ZA hyZ3b (ZA cZ4 (ZA cZ5 (ZA cZ7 cZ8)))))) V78.eq_1
          · obtain ⟨cZ9, h⟩ | ⟨cZ9, h⟩ := cond_s h
            · cases h
              exact ZL (ZA cZ2 (ZA hyZ3a (ZA hyZ3b (ZA cZ4 (ZA cZ5 (ZA cZ7 (ZA cZ8 cZ9))))))) V78.eq_1
            · cases h
              exact ZL (ZA cZ2 (ZA hyZ3a (ZA hyZ3b (ZA cZ4 (ZA cZ5 (ZA cZ7 (ZA cZ8 cZ9))))))) (ZA S_laws_heldLightSL1.eq_1 SX_laws_heldLightSL1.eq_1)
  · cases h
    exact ZL cZ2 (ZA S_laws_heldLightSL1.eq_1 SX_laws_heldLightSL1.eq_1)
theorem w_laws_heldLightS (aZ0 : List TLight) (kZ0 : Int) {r : Int} (h : M_laws_heldLightS aZ0 kZ0 = some r) : Ok Tryz.prog 78 [.lst .o 5 (aZ0.map (e_TLight .o)), .i kZ0] ((fun r => .i r) r) := by
  refine ok_of_body hmix m78 rfl ?_
  unfold M_laws_heldLightS at h
  simp only [ZC, A78, V78, body_eq]
  obtain ⟨oZ10, hoZ10, h⟩ := bind_s h
  try refine ZF trivial ?_
  refine join_rule (o := oZ10) (blk_rule sideR (loop_rule (w_laws_heldLightSL1 aZ0) hoZ10 ?_)) (fun vZ11 hv => ?_) (fun xZ12 hv e τ hne hq => ?_)
  · exact ZK (ZA S_laws_heldLightSL1.eq_1 SX_laws_heldLightSL1.eq_1)
  · subst hv
    simp only [] at h
    simp only [ZC, SX_laws_heldLightSL1, A78R2]
    cases h
    exact ZL trivial V78.eq_1
  · subst hv
    simp only [] at h
    obtain ⟨rfl, qZ13⟩ := hq
    cases h
    exact qZ13
theorem w_laws_heldPlan (aZ0 : TPlan) (kZ0 : Int) {r : Int} (h : M_laws_heldPlan aZ0 kZ0 = some r) : Ok Tryz.prog 44 [.agg [.lst .o 1 (aZ0.Network.Nodes.map AV.z), .lst .o 4 (aZ0.Network.Fibers.map (e_TFiber .o)), .lst .o 5 (aZ0.Lights.map (e_TLight .o))], .i kZ0] ((fun r => .i r) r) := by
  refine ok_of_body hmix m44 rfl ?_
  unfold M_laws_heldPlan at h
  simp only [ZC, A44, V44, body_eq]
  obtain ⟨rZ1, hrZ1, h⟩ := bind_s h
  refine ZF trivial ?_
  refine ZS trivial (w_laws_heldNetwork _ _ hrZ1) ?_
  refine ZG ?_
  obtain ⟨cZ2, h⟩ | ⟨cZ2, h⟩ := cond_s h
  · cases h
    exact ZL cZ2 V44.eq_1
  · obtain ⟨rZ3, hrZ3, h⟩ := bind_s h
    refine ZF cZ2 ?_
    refine ZS cZ2 (w_laws_heldLightS _ _ hrZ3) ?_
    refine ZG ?_
    obtain ⟨cZ4, h⟩ | ⟨cZ4, h⟩ := cond_s h
    · cases h
      exact ZL (ZA cZ2 cZ4) V44.eq_1
    · cases h
      exact ZL (ZA cZ2 cZ4) V44.eq_1
theorem w_laws_heldRestoration (aZ0 : TRestoration) (kZ0 : Int) {r : Int} (h : M_laws_heldRestoration aZ0 kZ0 = some r) : Ok Tryz.prog 30 [.agg [.lst .o 1 (aZ0.Plan.Network.Nodes.map AV.z), .lst .o 4 (aZ0.Plan.Network.Fibers.map (e_TFiber .o)), .lst .o 5 (aZ0.Plan.Lights.map (e_TLight .o)), .lst .o 5 (aZ0.Home.map (e_TLight .o)), .lst .o 1 (aZ0.Down.map AV.i)], .i kZ0] ((fun r => .i r) r) := by
  refine ok_of_body hmix m30 rfl ?_
  unfold M_laws_heldRestoration at h
  simp only [ZC, A30, V30, body_eq]
  obtain ⟨rZ1, hrZ1, h⟩ := bind_s h
  refine ZF trivial ?_
  refine ZS trivial (w_laws_heldPlan _ _ hrZ1) ?_
  refine ZG ?_
  obtain ⟨cZ2, h⟩ | ⟨cZ2, h⟩ := cond_s h
  · cases h
    exact ZL cZ2 V30.eq_1
  · obtain ⟨rZ3, hrZ3, h⟩ := bind_s h
    refine ZF cZ2 ?_
    refine ZS cZ2 (w_laws_heldLightS _ _ hrZ3) ?_
    refine ZG ?_
    obtain ⟨cZ4, h⟩ | ⟨cZ4, h⟩ := cond_s h
    · cases h
      exact ZL (ZA cZ2 cZ4) V30.eq_1
    · obtain ⟨rZ5, hrZ5, h⟩ := bind_s h
      refine ZF (ZA cZ2 cZ4) ?_
      refine ZS (ZA cZ2 cZ4) (w_laws_heldIntS _ _ hrZ5) ?_
      refine ZG ?_
      obtain ⟨cZ6, h⟩ | ⟨cZ6, h⟩ := cond_s h
      · cases h
        exact ZL (ZA cZ2 (ZA cZ4 cZ6)) V30.eq_1
      · cases h
        exact ZL (ZA cZ2 (ZA cZ4 cZ6)) V30.eq_1
theorem w_laws_FnExactStartRestoration (aPZ0 : TPlan) {r : Bool} (h : M_laws_FnExactStartRestoration aPZ0 = some r) : Ok Tryz.prog 5 [.agg [.lst .o 1 (aPZ0.Network.Nodes.map AV.z), .lst .o 4 (aPZ0.Network.Fibers.map (e_TFiber .o)), .lst .o 5 (aPZ0.Lights.map (e_TLight .o))]] ((fun r => .b r) r) := by
  refine ok_of_body hmix m5 rfl ?_
  unfold M_laws_FnExactStartRestoration at h
  simp only [ZC, A5, V5, body_eq]
  obtain ⟨rZ1, hrZ1, h⟩ := bind_s h
  refine ZF trivial ?_
  refine ZS trivial (w_laws_szPlan _ _ hrZ1) ?_
  refine ZG ?_
  obtain ⟨cZ2, h⟩ | ⟨cZ2, h⟩ := cond_s h
  · cases h
    exact ZL cZ2 V5.eq_1
  · obtain ⟨rZ3, hrZ3, h⟩ := bind_s h
    refine ZF cZ2 ?_
    refine ZU cZ2 (w_laws_toPlan _ hrZ3) ?_
    refine ZG ?_
    obtain ⟨rZ4, hrZ4, h⟩ := bind_s h
    refine ZF cZ2 ?_
    refine ZU cZ2 (w_spec_StartRestoration _ hrZ4) ?_
    refine ZG ?_
    obtain ⟨rZ5, hrZ5, h⟩ := bind_s h
    refine ZF cZ2 ?_
    refine ZU cZ2 (w_laws_toPlan _ hrZ5) ?_
    refine ZG ?_
    obtain ⟨rZ6, hrZ6, h⟩ := bind_s h
    refine ZF cZ2 ?_
    refine ZU cZ2 (w_impl_StartRestoration _ hrZ6) ?_
    refine ZG ?_
    obtain ⟨oZ9, hoZ9, h⟩ := bind_s h
    try refine ZF cZ2 ?_
    refine join_rule0 (sh := (fun v => ⟨[(1, .pt 1 0 0), (4, .pt 4 0 0), (5, .b rZ4.2), (6, .pt 6 0 0), (7, .pt 7 0 0), (8, .b rZ6.2), (40, .b v)], [(1, .var (.agg [.lst .o 1 (aPZ0.Network.Nodes.map AV.z), .lst .o 4 (aPZ0.Network.Fibers.map (e_TFiber .o)), .lst .o 5 (aPZ0.Lights.map (e_TLight .o))])), (4, .var (.agg [.sl 22 0 rZ4.1.Plan.Network.Nodes.length, .sl 1022 0 rZ4.1.Plan.Network.Fibers.length, .sl 2022 0 rZ4.1.Plan.Lights.length, .sl 3022 0 rZ4.1.Home.length, .sl 4022 0 rZ4.1.Down.length])), (6, .var (.agg [.sl 26 0 rZ5.Network.Nodes.length, .sl 1026 0 rZ5.Network.Fibers.length, .sl 2026 0 rZ5.Lights.length])), (7, .var (.agg [.sl 29 0 rZ6.1.Plan.Network.Nodes.length, .sl 1029 0 rZ6.1.Plan.Network.Fibers.length, .sl 2029 0 rZ6.1.Plan.Lights.length, .sl 3029 0 rZ6.1.Home.length, .sl 4029 0 rZ6.1.Down.length])), (22, .arr 1 (rZ4.1.Plan.Network.Nodes.map AV.z)), (26, .arr 1 (rZ5.Network.Nodes.map AV.z)), (29, .arr 1 (rZ6.1.Plan.Network.Nodes.map AV.z)), (1022, .arr 4 (rZ4.1.Plan.Network.Fibers.map (e_TFiber .u))), (1026, .arr 4 (rZ5.Network.Fibers.map (e_TFiber .u))), (1029, .arr 4 (rZ6.1.Plan.Network.Fibers.map (e_TFiber .u))), (2022, .arr 5 (rZ4.1.Plan.Lights.map (e_TLight .u))), (2026, .arr 5 (rZ5.Lights.map (e_TLight .u))), (2029, .arr 5 (rZ6.1.Plan.Lights.map (e_TLight .u))), (3022, .arr 5 (rZ4.1.Home.map (e_TLight .u))), (3029, .arr 5 (rZ6.1.Home.map (e_TLight .u))), (4022, .arr 1 (rZ4.1.Down.map AV.i)), (4029, .arr 1 (rZ6.1.Down.map AV.i))]⟩)) (s := oZ9) ?_ ?_
    · replace h := hoZ9
      obtain ⟨rZ7, hrZ7, h⟩ := bind_s h
      refine ZF cZ2 ?_
      refine ZS cZ2 (w_laws_eqRestoration _ _ hrZ7) ?_
      refine ZG ?_
      obtain ⟨cZ8, h⟩ | ⟨cZ8, h⟩ := cond_s h
      · cases h
        exact ZL (ZA cZ2 cZ8) trivial
      · cases h
        exact ZL (ZA cZ2 cZ8) trivial
    · simp only [ZC, A5R1]
      obtain ⟨cZ10, h⟩ | ⟨cZ10, h⟩ := cond_s h
      · cases h
        exact ZL (ZA cZ2 cZ10) V5.eq_1
      · obtain ⟨rZ11, hrZ11, h⟩ := bind_s h
        refine ZF (ZA cZ2 cZ10) ?_
        refine ZU (ZA cZ2 cZ10) (w_laws_toPlan _ hrZ11) ?_
        refine ZG ?_
        obtain ⟨rZ12, hrZ12, h⟩ := bind_s h
        refine ZF (ZA cZ2 cZ10) ?_
        refine ZS (ZA cZ2 cZ10) (w_laws_eqPlan _ _ hrZ12) ?_
        refine ZG ?_
        obtain ⟨cZ13, h⟩ | ⟨cZ13, h⟩ := cond_s h
        · cases h
          exact ZL (ZA cZ2 (ZA cZ10 cZ13)) V5.eq_1
        · obtain ⟨rZ14, hrZ14, h⟩ := bind_s h
          refine ZF (ZA cZ2 (ZA cZ10 cZ13)) ?_
          refine ⟨by simp [fz_mk, fz_sc, fz_lsto, fz_agg, fz_tup, fz_fn, fz_sl, fz_pt, fz_top, fzL_nil, fzL_cons, ou_sc, ou_lstu, ou_lsto, ou_agg, ouL_nil, ouL_cons, rfz_var, rfz_arr, rfz_dead, fzL_mi, fzL_mb, fzL_mz, fzL_m8, fzL_m64, ouL_m8, ouL_m64, ouL_mi, ouL_mb, ouL_mz, VZ1], call_m (ok := ⟨_, _, _⟩) (by simp only [VS1, VS2, VS3, VS4, VS5, VS6, VT1, VT2, finM_ret, finM_nrm, decide_true, decide_false, List.nodup_nil, List.nodup_cons, oks_p, oks_m, oks_h, ne_eq, not_false_eq_true, Int.reduceEq, Int.reduceNe, true_and, false_and, Nat.reduceSub, Nat.reduceMul, ↓reduceIte, reduceCtorEq, Nat.reduceEqDiff, Nat.reduceAdd, Nat.reduceLeDiff, Int.reduceLE, cZ2, cZ10, cZ13]; first | exact w_laws_markPlanM1 _ _ _ _ hrZ14 | (have hw := w_laws_markPlanM1 _ _ _ _ hrZ14; simp only [VS1, VS2, VS3, VS4, VS5, VS6, VT1, VT2, finM_ret, finM_nrm, decide_true, decide_false, List.nodup_nil, List.nodup_cons, oks_p, oks_m, oks_h, ne_eq, not_false_eq_true, Int.reduceEq, Int.reduceNe, true_and, false_and, Nat.reduceSub, Nat.reduceMul, ↓reduceIte, reduceCtorEq, Nat.reduceEqDiff, Nat.reduceAdd, Nat.reduceLeDiff, Int.reduceLE, cZ2, cZ10, cZ13] at hw; exact hw)) (by simp [VS1, VS2, VS3, VS4, VS5, VS6, VT1, VT2]) (by first | exact nm_ok [1000000000, 1000000001, 1000000002] rfl (by decide +kernel) | exact nm_ok2 [1000000000, 1000000001, 1000000002] [] rfl (by decide +kernel) (by simp [VS1, VS2, VS3, VS4, VS5, VS6, VT1, VT2]) | simp [VS1, VS2, VS3, VS4, VS5, VS6, VT1, VT2]) ?_⟩
          refine ZG ?_
          obtain ⟨oZ18, hoZ18, h⟩ := bind_s h
          try refine ZF (ZA cZ2 (ZA cZ10 cZ13)) ?_
          refine join_rule0 (sh := (fun v => ⟨[(1, .pt 1 0 0), (4, .pt 4 0 0), (5, .b rZ4.2), (7, .pt 7 0 0), (61, .b v)], [(1, .var (.agg [.lst .o 1 (aPZ0.Network.Nodes.map AV.z), .lst .o 4 (aPZ0.Network.Fibers.map (e_TFiber .o)), .lst .o 5 (aPZ0.Lights.map (e_TLight .o))])), (4, .var (.agg [.sl 22 0 rZ4.1.Plan.Network.Nodes.length, .sl 1022 0 rZ4.1.Plan.Network.Fibers.length, .sl 2022 0 rZ4.1.Plan.Lights.length, .sl 3022 0 rZ4.1.Home.length, .sl 4022 0 rZ4.1.Down.length])), (7, .var (.agg [.sl 29 0 rZ6.1.Plan.Network.Nodes.length, .sl 1029 0 rZ6.1.Plan.Network.Fibers.length, .sl 2029 0 rZ6.1.Plan.Lights.length, .sl 3029 0 rZ6.1.Home.length, .sl 4029 0 rZ6.1.Down.length])), (22, .arr 1 (rZ4.1.Plan.Network.Nodes.map AV.z)), (29, .arr 1 (rZ6.1.Plan.Network.Nodes.map AV.z)), (1022, .arr 4 (rZ4.1.Plan.Network.Fibers.map (e_TFiber .u))), (1029, .arr 4 (rZ6.1.Plan.Network.Fibers.map (e_TFiber .u))), (2022, .arr 5 (rZ4.1.Plan.Lights.map (e_TLight .u))), (2029, .arr 5 (rZ6.1.Plan.Lights.map (e_TLight .u))), (3022, .arr 5 (rZ4.1.Home.map (e_TLight .u))), (3029, .arr 5 (rZ6.1.Home.map (e_TLight .u))), (4022, .arr 1 (rZ4.1.Down.map AV.i)), (4029, .arr 1 (rZ6.1.Down.map AV.i))]⟩)) (s := oZ18) ?_ ?_
          · replace h := hoZ18
            obtain ⟨cZ15, h⟩ | ⟨cZ15, h⟩ := cond_s h
            · cases h
              exact ZL (ZA cZ2 (ZA cZ10 (ZA cZ13 cZ15))) trivial
            · obtain ⟨rZ16, hrZ16, h⟩ := bind_s h
              refine ZF (ZA cZ2 (ZA cZ10 (ZA cZ13 cZ15))) ?_
              refine ZS (ZA cZ2 (ZA cZ10 (ZA cZ13 cZ15))) (w_laws_eqRestoration _ _ hrZ16) ?_
              refine ZG ?_
              obtain ⟨cZ17, h⟩ | ⟨cZ17, h⟩ := cond_s h
              · cases h
                exact ZL (ZA cZ2 (ZA cZ10 (ZA cZ13 (ZA cZ15 cZ17)))) trivial
              · cases h
                exact ZL (ZA cZ2 (ZA cZ10 (ZA cZ13 (ZA cZ15 cZ17)))) trivial
          · simp only [ZC, A5R2]
            obtain ⟨cZ19, h⟩ | ⟨cZ19, h⟩ := cond_s h
            · cases h
              exact ZL (ZA cZ2 (ZA cZ10 (ZA cZ13 cZ19))) V5.eq_1
            · obtain ⟨rZ20, hrZ20, h⟩ := bind_s h
              refine ZF (ZA cZ2 (ZA cZ10 (ZA cZ13 cZ19))) ?_
              refine ⟨by simp [fz_mk, fz_sc, fz_lsto, fz_agg, fz_tup, fz_fn, fz_sl, fz_pt, fz_top, fzL_nil, fzL_cons, ou_sc, ou_lstu, ou_lsto, ou_agg, ouL_nil, ouL_cons, rfz_var, rfz_arr, rfz_dead, fzL_mi, fzL_mb, fzL_mz, fzL_m8, fzL_m64, ouL_m8, ouL_m64, ouL_mi, ouL_mb, ouL_mz, VZ1], call_m (ok := ⟨_, _, _⟩) (by simp only [VS1, VS2, VS3, VS4, VS5, VS6, VT1, VT2, finM_ret, finM_nrm, decide_true, decide_false, List.nodup_nil, List.nodup_cons, oks_p, oks_m, oks_h, ne_eq, not_false_eq_true, Int.reduceEq, Int.reduceNe, true_and, false_and, Nat.reduceSub, Nat.reduceMul, ↓reduceIte, reduceCtorEq, Nat.reduceEqDiff, Nat.reduceAdd, Nat.reduceLeDiff, Int.reduceLE, cZ2, cZ10, cZ13, cZ19]; first | exact w_laws_markRestorationM1 _ _ _ _ _ _ hrZ20 | (have hw := w_laws_markRestorationM1 _ _ _ _ _ _ hrZ20; simp only [VS1, VS2, VS3, VS4, VS5, VS6, VT1, VT2, finM_ret, finM_nrm, decide_true, decide_false, List.nodup_nil, List.nodup_cons, oks_p, oks_m, oks_h, ne_eq, not_false_eq_true, Int.reduceEq, Int.reduceNe, true_and, false_and, Nat.reduceSub, Nat.reduceMul, ↓reduceIte, reduceCtorEq, Nat.reduceEqDiff, Nat.reduceAdd, Nat.reduceLeDiff, Int.reduceLE, cZ2, cZ10, cZ13, cZ19] at hw; exact hw)) (by simp [VS1, VS2, VS3, VS4, VS5, VS6, VT1, VT2]) (by first | exact nm_ok [1000000000, 1000000001, 1000000002, 1000000003, 1000000004] rfl (by decide +kernel) | exact nm_ok2 [1000000000, 1000000001, 1000000002, 1000000003, 1000000004] [] rfl (by decide +kernel) (by simp [VS1, VS2, VS3, VS4, VS5, VS6, VT1, VT2]) | simp [VS1, VS2, VS3, VS4, VS5, VS6, VT1, VT2]) ?_⟩
              refine ZG ?_
              obtain ⟨lZ21, hlZ21, h⟩ := bnd_s h
              have eZ22 : sub (rZ20.2.1.map AV.z) 0 rZ6.1.Plan.Network.Nodes.length = lZ21.map AV.z := by rw [sub_mapT, hlZ21]
              obtain ⟨lZ23, hlZ23, h⟩ := bnd_s h
              have eZ24 : sub (rZ20.2.2.1.map (e_TFiber .u)) 0 rZ6.1.Plan.Network.Fibers.length = lZ23.map (e_TFiber .u) := by rw [sub_mapT, hlZ23]
              obtain ⟨lZ25, hlZ25, h⟩ := bnd_s h
              have eZ26 : sub (rZ20.2.2.2.1.map (e_TLight .u)) 0 rZ6.1.Plan.Lights.length = lZ25.map (e_TLight .u) := by rw [sub_mapT, hlZ25]
              obtain ⟨lZ27, hlZ27, h⟩ := bnd_s h
              have eZ28 : sub (rZ20.2.2.2.2.1.map (e_TLight .u)) 0 rZ6.1.Home.length = lZ27.map (e_TLight .u) := by rw [sub_mapT, hlZ27]
              obtain ⟨lZ29, hlZ29, h⟩ := bnd_s h
              have eZ30 : sub (rZ20.2.2.2.2.2.map AV.i) 0 rZ6.1.Down.length = lZ29.map AV.i := by rw [sub_mapT, hlZ29]
              obtain ⟨rZ31, hrZ31, h⟩ := bind_s h
              refine ZF (ZA cZ2 (ZA cZ10 (ZA cZ13 (ZA cZ19 (ZA eZ22 (ZA eZ24 (ZA eZ26 (ZA eZ28 eZ30)))))))) ?_
              refine ZS (ZA cZ2 (ZA cZ10 (ZA cZ13 (ZA cZ19 (ZA eZ22 (ZA eZ24 (ZA eZ26 (ZA eZ28 eZ30)))))))) (w_laws_heldRestoration _ _ hrZ31) ?_
              refine ZG ?_
              obtain ⟨cZ32, h⟩ | ⟨cZ32, h⟩ := cond_s h
              · cases h
                exact ZL (ZA cZ2 (ZA cZ10 (ZA cZ13 (ZA cZ19 (ZA eZ22 (ZA eZ24 (ZA eZ26 (ZA eZ28 (ZA eZ30 cZ32))))))))) V5.eq_1
              · obtain ⟨cZ33, h⟩ | ⟨cZ33, h⟩ := cond_s h
                · cases h
                  exact ZL (ZA cZ2 (ZA cZ10 (ZA cZ13 (ZA cZ19 (ZA eZ22 (ZA eZ24 (ZA eZ26 (ZA eZ28 (ZA eZ30 (ZA cZ32 cZ33)))))))))) V5.eq_1
                · obtain ⟨rZ34, hrZ34, h⟩ := bind_s h
                  refine ZF (ZA cZ2 (ZA cZ10 (ZA cZ13 (ZA cZ19 (ZA eZ22 (ZA eZ24 (ZA eZ26 (ZA eZ28 (ZA eZ30 (ZA cZ32 cZ33)))))))))) ?_
                  refine ZU (ZA cZ2 (ZA cZ10 (ZA cZ13 (ZA cZ19 (ZA eZ22 (ZA eZ24 (ZA eZ26 (ZA eZ28 (ZA eZ30 (ZA cZ32 cZ33)))))))))) (w_laws_toPlan _ hrZ34) ?_
                  refine ZG ?_
                  obtain ⟨rZ35, hrZ35, h⟩ := bind_s h
                  refine ZF (ZA cZ2 (ZA cZ10 (ZA cZ13 (ZA cZ19 (ZA eZ22 (ZA eZ24 (ZA eZ26 (ZA eZ28 (ZA eZ30 (ZA cZ32 cZ33)))))))))) ?_
                  refine ZU (ZA cZ2 (ZA cZ10 (ZA cZ13 (ZA cZ19 (ZA eZ22 (ZA eZ24 (ZA eZ26 (ZA eZ28 (ZA eZ30 (ZA cZ32 cZ33)))))))))) (w_impl_StartRestoration _ hrZ35) ?_
                  refine ZG ?_
                  obtain ⟨oZ38, hoZ38, h⟩ := bind_s h
                  try refine ZF (ZA cZ2 (ZA cZ10 (ZA cZ13 (ZA cZ19 (ZA eZ22 (ZA eZ24 (ZA eZ26 (ZA eZ28 (ZA eZ30 (ZA cZ32 cZ33)))))))))) ?_
                  refine join_rule0 (sh := (fun v => ⟨[(7, .pt 7 0 0), (10, .i rZ20.1), (87, .b v)], [(7, .var (.agg [.sl 29 0 rZ6.1.Plan.Network.Nodes.length, .sl 1029 0 rZ6.1.Plan.Network.Fibers.length, .sl 2029 0 rZ6.1.Plan.Lights.length, .sl 3029 0 rZ6.1.Home.length, .sl 4029 0 rZ6.1.Down.length])), (29, .arr 1 (rZ20.2.1.map AV.z)), (1029, .arr 4 (rZ20.2.2.1.map (e_TFiber .u))), (2029, .arr 5 (rZ20.2.2.2.1.map (e_TLight .u))), (3029, .arr 5 (rZ20.2.2.2.2.1.map (e_TLight .u))), (4029, .arr 1 (rZ20.2.2.2.2.2.map AV.i))]⟩)) (s := oZ38) ?_ ?_
                  · replace h := hoZ38
                    obtain ⟨rZ36, hrZ36, h⟩ := bind_s h
                    refine ZF (ZA cZ2 (ZA cZ10 (ZA cZ13 (ZA cZ19 (ZA eZ22 (ZA eZ24 (ZA eZ26 (ZA eZ28 (ZA eZ30 (ZA cZ32 cZ33)))))))))) ?_
                    refine ZS (ZA cZ2 (ZA cZ10 (ZA cZ13 (ZA cZ19 (ZA eZ22 (ZA eZ24 (ZA eZ26 (ZA eZ28 (ZA eZ30 (ZA cZ32 cZ33)))))))))) (w_laws_eqRestoration _ _ hrZ36) ?_
                    refine ZG ?_
                    obtain ⟨cZ37, h⟩ | ⟨cZ37, h⟩ := cond_s h
                    · cases h
                      exact ZL (ZA cZ2 (ZA cZ10 (ZA cZ13 (ZA cZ19 (ZA eZ22 (ZA eZ24 (ZA eZ26 (ZA eZ28 (ZA eZ30 (ZA cZ32 (ZA cZ33 cZ37))))))))))) trivial
                    · cases h
                      exact ZL (ZA cZ2 (ZA cZ10 (ZA cZ13 (ZA cZ19 (ZA eZ22 (ZA eZ24 (ZA eZ26 (ZA eZ28 (ZA eZ30 (ZA cZ32 (ZA cZ33 cZ37))))))))))) trivial
                  · simp only [ZC, A5R3]
                    obtain ⟨cZ39, h⟩ | ⟨cZ39, h⟩ := cond_s h
                    · cases h
                      exact ZL (ZA cZ2 (ZA cZ10 (ZA cZ13 (ZA cZ19 (ZA eZ22 (ZA eZ24 (ZA eZ26 (ZA eZ28 (ZA eZ30 (ZA cZ32 (ZA cZ33 cZ39))))))))))) V5.eq_1
                    · obtain ⟨rZ40, hrZ40, h⟩ := bind_s h
                      refine ZF (ZA cZ2 (ZA cZ10 (ZA cZ13 (ZA cZ19 (ZA eZ22 (ZA eZ24 (ZA eZ26 (ZA eZ28 (ZA eZ30 (ZA cZ32 (ZA cZ33 cZ39))))))))))) ?_
                      refine ZS (ZA cZ2 (ZA cZ10 (ZA cZ13 (ZA cZ19 (ZA eZ22 (ZA eZ24 (ZA eZ26 (ZA eZ28 (ZA eZ30 (ZA cZ32 (ZA cZ33 cZ39))))))))))) (w_laws_heldRestoration _ _ hrZ40) ?_
                      refine ZG ?_
                      obtain ⟨cZ41, h⟩ | ⟨cZ41, h⟩ := cond_s h
                      · cases h
                        exact ZL (ZA cZ2 (ZA cZ10 (ZA cZ13 (ZA cZ19 (ZA eZ22 (ZA eZ24 (ZA eZ26 (ZA eZ28 (ZA eZ30 (ZA cZ32 (ZA cZ33 (ZA cZ39 cZ41)))))))))))) V5.eq_1
                      · obtain ⟨cZ42, h⟩ | ⟨cZ42, h⟩ := cond_s h
                        · cases h
                          exact ZL (ZA cZ2 (ZA cZ10 (ZA cZ13 (ZA cZ19 (ZA eZ22 (ZA eZ24 (ZA eZ26 (ZA eZ28 (ZA eZ30 (ZA cZ32 (ZA cZ33 (ZA cZ39 (ZA cZ41 cZ42))))))))))))) V5.eq_1
                        · cases h
                          exact ZL (ZA cZ2 (ZA cZ10 (ZA cZ13 (ZA cZ19 (ZA eZ22 (ZA eZ24 (ZA eZ26 (ZA eZ28 (ZA eZ30 (ZA cZ32 (ZA cZ33 (ZA cZ39 (ZA cZ41 cZ42))))))))))))) V5.eq_1
end Vs

