/-
  Part of the proof that the law FnExactRepairOrder returns true at every input; no condition beside the row's own.
-/
import Derived.Test.YtfmhphgpijjejaaGreatAb
set_option linter.defProp false
set_option linter.unusedSimpArgs false
set_option linter.unusedVariables false
set_option maxHeartbeats 1000000
set_option maxRecDepth 8000
namespace Vs
open Go Go.Proofs
attribute [local irreducible] AWP stOps eff awpC callA callM
theorem w_da (bZ0 : TBlock) {r : Bool} (h : M_da bZ0 = some r) : Ok Tryz.prog 169 [.agg [.i bZ0.First, .i bZ0.Count]] ((fun r => .b r) r) := by
 refine ok_of_body hmix m169 rfl ?_
 unfold M_da at h
 simp only [ZC, A169, V169, body_eq]
 obtain ⟨cZ1, h⟩ | ⟨cZ1, h⟩ := cond_s h
 · obtain ⟨rZ2, hrZ2, h⟩ := bind_s h
   refine ZF cZ1 ?_
   refine ZS cZ1 (w_c _ _ _ hrZ2) ?_
   refine ZG ?_
   obtain ⟨cZ3, h⟩ | ⟨cZ3, h⟩ := cond_s h
   · cases h
     exact ZL (ZA cZ1 cZ3) V169.eq_1
   · cases h
     exact ZL (ZA cZ1 cZ3) V169.eq_1
 · cases h
   exact ZL cZ1 V169.eq_1
def S_t (nZ0 : TNetwork) (sZ1 : Int × List (List Int)) (v : Int × List Int) : St := ⟨[(1, .pt 1 0 0), (3, .sl 3 0 sZ1.2.length), (4, .i sZ1.1), (5, .sl 5 0 v.2.length), (17, .lst .o 4 (nZ0.Fibers.map (e_TFiber .o))), (18, .i (nZ0.Fibers.length : Int)), (19, .i v.1)], [(1, .var (.agg [.lst .o 1 (nZ0.Nodes.map AV.z), .lst .o 4 (nZ0.Fibers.map (e_TFiber .o))])), (3, .arr 1 (sZ1.2.map (e_Li .u))), (5, .arr 1 (v.2.map AV.i))]⟩
def SX_t (nZ0 : TNetwork) (sZ1 : Int × List (List Int)) (v : List Int) : St := ⟨[(1, .pt 1 0 0), (3, .sl 3 0 sZ1.2.length), (4, .i sZ1.1), (5, .sl 5 0 v.length)], [(1, .var (.agg [.lst .o 1 (nZ0.Nodes.map AV.z), .lst .o 4 (nZ0.Fibers.map (e_TFiber .o))])), (3, .arr 1 (sZ1.2.map (e_Li .u))), (5, .arr 1 (v.map AV.i))]⟩
theorem w_t (nZ0 : TNetwork) (sZ1 : Int × List (List Int)) (sZ3 : Int × List Int) (o : (Int × List Int) ⊕ (List Int)) (h : M_t nZ0 sZ1 sZ3 = some o) : AWP (OkS Tryz.prog) A78L1 (qL [1, 3, 4, 5, 17, 18, 19] [1, 3, 5] (S_t nZ0 sZ1) (qX 2 [1, 3, 4, 5] [1, 3, 5] (SX_t nZ0 sZ1)) o) (S_t nZ0 sZ1 sZ3) := by
 unfold M_t at h
 simp only [ZC, S_t, A78L1]
 obtain ⟨cZ4, h⟩ | ⟨cZ4, h⟩ := cond_s h
 · obtain ⟨yZ5, hyZ5, h⟩ := bind_s h
   obtain ⟨hyZ5a, hyZ5b⟩ := geti_s hyZ5
   obtain ⟨cZ6, h⟩ | ⟨cZ6, h⟩ := cond_s h
   · obtain ⟨lZ7, hlZ7, h⟩ := bnd_s h
     have eZ8 : Row.arr 1 [(.i sZ3.1 : AV)] = Row.arr 1 (lZ7.map AV.i) := by rw [← hlZ7]; rfl
     have jjZ9 : lZ7.length = 1 := by rw [← hlZ7]; rfl
     obtain ⟨uZ10, huZ10, h⟩ := bind_s h
     have huZ10g := grd_s huZ10
     obtain ⟨lZ11, hlZ11, h⟩ := bnd_s h
     have eZ12 : sZ3.2.map AV.i ++ lZ7.map AV.i = lZ11.map AV.i := by rw [← hlZ11, List.map_append]
     have eZ13 : sZ3.2.length + 1 = lZ11.length := by simp [← hlZ7, ← hlZ11] <;> omega
     rw [eZ13] at huZ10g
     cases h
     exact ZL (ZA cZ4 (ZA hyZ5a (ZA hyZ5b (ZA cZ6 (ZA eZ8 (ZA jjZ9 (ZA huZ10g (ZA eZ12 eZ13)))))))) (ZA S_t.eq_1 (ZA SX_t.eq_1 (ZA hlZ7.symm (ZA hlZ11.symm jjZ9))))
   · cases h
     exact ZL (ZA cZ4 (ZA hyZ5a (ZA hyZ5b cZ6))) (ZA S_t.eq_1 SX_t.eq_1)
 · cases h
   exact ZL cZ4 (ZA S_t.eq_1 SX_t.eq_1)
def S_u (nZ0 : TNetwork) (v : Int × List (List Int)) : St := ⟨[(1, .pt 1 0 0), (3, .sl 3 0 v.2.length), (4, .i v.1)], [(1, .var (.agg [.lst .o 1 (nZ0.Nodes.map AV.z), .lst .o 4 (nZ0.Fibers.map (e_TFiber .o))])), (3, .arr 1 (v.2.map (e_Li .u)))]⟩
def SX_u (nZ0 : TNetwork) (v : List (List Int)) : St := ⟨[(1, .pt 1 0 0), (3, .sl 3 0 v.length)], [(1, .var (.agg [.lst .o 1 (nZ0.Nodes.map AV.z), .lst .o 4 (nZ0.Fibers.map (e_TFiber .o))])), (3, .arr 1 (v.map (e_Li .u)))]⟩
theorem w_u (nZ0 : TNetwork) (sZ1 : Int × List (List Int)) (o : (Int × List (List Int)) ⊕ (List (List Int))) (h : M_u nZ0 sZ1 = some o) : AWP (OkS Tryz.prog) A78L3 (qL [1, 3, 4] [1, 3] (S_u nZ0) (qX 0 [1, 3] [1, 3] (SX_u nZ0)) o) (S_u nZ0 sZ1) := by
 unfold M_u at h
 simp only [ZC, S_u, A78L3]
 obtain ⟨cZ2, h⟩ | ⟨cZ2, h⟩ := cond_s h
 · obtain ⟨oZ14, hoZ14, h⟩ := bind_s h
   try refine ZF cZ2 ?_
   refine join_rule0 (blk_rule0 (loop_rule (w_t nZ0 sZ1) hoZ14 ?_)) ?_
   · exact ZK (ZA S_t.eq_1 SX_t.eq_1)
   · simp only [ZC, SX_t, A78R2]
     obtain ⟨cZ15, h⟩ | ⟨cZ15, h⟩ := cond_s h
     · obtain ⟨lZ16, hlZ16, h⟩ := bnd_s h
       have eZ17 : Row.arr 1 [(.lst .u 1 (oZ14.map AV.i) : AV)] = Row.arr 1 (lZ16.map (e_Li .u)) := by rw [← hlZ16]; rfl
       have jjZ18 : lZ16.length = 1 := by rw [← hlZ16]; rfl
       obtain ⟨uZ19, huZ19, h⟩ := bind_s h
       have huZ19g := grd_s huZ19
       obtain ⟨lZ20, hlZ20, h⟩ := bnd_s h
       have eZ21 : sZ1.2.map (e_Li .u) ++ lZ16.map (e_Li .u) = lZ20.map (e_Li .u) := by rw [← hlZ20, List.map_append]
       have eZ22 : sZ1.2.length + 1 = lZ20.length := by simp [← hlZ16, ← hlZ20] <;> omega
       rw [eZ22] at huZ19g
       cases h
       exact ZL (ZA cZ2 (ZA cZ15 (ZA eZ17 (ZA jjZ18 (ZA huZ19g (ZA eZ21 eZ22)))))) (ZA S_u.eq_1 (ZA SX_u.eq_1 (ZA hlZ16.symm (ZA hlZ20.symm jjZ18))))
     · cases h
       exact ZL (ZA cZ2 cZ15) (ZA S_u.eq_1 SX_u.eq_1)
 · cases h
   exact ZL cZ2 (ZA S_u.eq_1 SX_u.eq_1)
def S_v (nZ0 : TNetwork) (v : Int × List (List Int)) : St := ⟨[(3, .sl 3 0 v.2.length), (41, .lst .o 4 (nZ0.Fibers.map (e_TFiber .o))), (42, .i (nZ0.Fibers.length : Int)), (43, .i v.1)], [(3, .arr 1 (v.2.map (e_Li .u)))]⟩
def SX_v (v : List (List Int)) : St := ⟨[(3, .sl 3 0 v.length)], [(3, .arr 1 (v.map (e_Li .u)))]⟩
theorem w_v (nZ0 : TNetwork) (sZ24 : Int × List (List Int)) (o : (Int × List (List Int)) ⊕ (List (List Int))) (h : M_v nZ0 sZ24 = some o) : AWP (OkS Tryz.prog) A78L5 (qL [3, 41, 42, 43] [3] (S_v nZ0) (qX 4 [3] [3] (SX_v)) o) (S_v nZ0 sZ24) := by
 unfold M_v at h
 simp only [ZC, S_v, A78L5]
 obtain ⟨cZ25, h⟩ | ⟨cZ25, h⟩ := cond_s h
 · obtain ⟨yZ26, hyZ26, h⟩ := bind_s h
   obtain ⟨hyZ26a, hyZ26b⟩ := geti_s hyZ26
   obtain ⟨cZ27, h⟩ | ⟨cZ27, h⟩ := cond_s h
   · obtain ⟨lZ28, hlZ28, h⟩ := bnd_s h
     have eZ29 : Row.arr 1 [(.i sZ24.1 : AV)] = Row.arr 1 (lZ28.map AV.i) := by rw [← hlZ28]; rfl
     have jjZ30 : lZ28.length = 1 := by rw [← hlZ28]; rfl
     have nZ31 : sub (lZ28.map AV.i) 0 1 = lZ28.map AV.i := sub_n _ (by simp [← hlZ28])
     obtain ⟨lZ32, hlZ32, h⟩ := bnd_s h
     have eZ33 : Row.arr 1 [(.lst .u 1 (lZ28.map AV.i) : AV)] = Row.arr 1 (lZ32.map (e_Li .u)) := by rw [← hlZ32]; rfl
     have jjZ34 : lZ32.length = 1 := by rw [← hlZ32]; rfl
     obtain ⟨uZ35, huZ35, h⟩ := bind_s h
     have huZ35g := grd_s huZ35
     obtain ⟨lZ36, hlZ36, h⟩ := bnd_s h
     have eZ37 : sZ24.2.map (e_Li .u) ++ lZ32.map (e_Li .u) = lZ36.map (e_Li .u) := by rw [← hlZ36, List.map_append]
     have eZ38 : sZ24.2.length + 1 = lZ36.length := by simp [← hlZ28, ← hlZ32, ← hlZ36] <;> omega
     rw [eZ38] at huZ35g
     cases h
     exact ZL (ZA cZ25 (ZA hyZ26a (ZA hyZ26b (ZA cZ27 (ZA eZ29 (ZA jjZ30 (ZA nZ31 (ZA eZ33 (ZA jjZ34 (ZA huZ35g (ZA eZ37 eZ38))))))))))) (ZA S_v.eq_1 (ZA SX_v.eq_1 (ZA hlZ28.symm (ZA hlZ32.symm (ZA hlZ36.symm (ZA jjZ30 jjZ34))))))
   · cases h
     exact ZL (ZA cZ25 (ZA hyZ26a (ZA hyZ26b cZ27))) (ZA S_v.eq_1 SX_v.eq_1)
 · cases h
   exact ZL cZ25 (ZA S_v.eq_1 SX_v.eq_1)
theorem w_cl (nZ0 : TNetwork) {r : List (List Int)} (h : M_cl nZ0 = some r) : Ok Tryz.prog 78 [.agg [.lst .o 1 (nZ0.Nodes.map AV.z), .lst .o 4 (nZ0.Fibers.map (e_TFiber .o))]] ((fun r => .lst .u 1 (r.map (e_Li .u))) r) := by
 refine ok_of_body hmix m78 rfl ?_
 unfold M_cl at h
 simp only [ZC, A78, V78, body_eq]
 obtain ⟨oZ23, hoZ23, h⟩ := bind_s h
 try refine ZF trivial ?_
 refine join_rule0 (blk_rule0 (loop_rule (w_u nZ0) hoZ23 ?_)) ?_
 · exact ZK (ZA S_u.eq_1 SX_u.eq_1)
 · simp only [ZC, SX_u, A78R4]
   obtain ⟨oZ39, hoZ39, h⟩ := bind_s h
   try refine ZF trivial ?_
   refine join_rule0 (blk_rule0 (loop_rule (w_v nZ0) hoZ39 ?_)) ?_
   · exact ZK (ZA S_v.eq_1 SX_v.eq_1)
   · simp only [ZC, SX_v, A78R6]
     cases h
     exact ZL trivial V78.eq_1
theorem w_eu (listZ0 : List Int) (p1Z0 : Int) {r : Bool} (h : M_eu listZ0 p1Z0 = some r) : Ok Tryz.prog 248 [.lst .o 1 (listZ0.map AV.i), .bp (.i p1Z0) 0] ((fun r => .b r) r) := by
 refine ok_of_body hmix m248 rfl ?_
 unfold M_eu at h
 simp only [ZC, A248, V248, body_eq]
 obtain ⟨rZ1, hrZ1, h⟩ := bind_s h
 refine ZF trivial ?_
 refine ZS trivial (w_ck _ _ hrZ1) ?_
 refine ZG ?_
 cases h
 exact ZL trivial V248.eq_1
def S_bb (sZ0 : List (List Int)) (F_fZ0 : Nat) (C_fZ0 : List AV) (v : Int) : St := ⟨[(0, .lst .o 1 (sZ0.map (e_Li .o))), (1, .fn F_fZ0 C_fZ0), (7, .i (sZ0.length : Int)), (8, .i v)], []⟩
def SX_bb (v : Unit) : St := ⟨[], []⟩
theorem w_bb (sZ0 : List (List Int)) (fZ0 : (List Int) → Option Bool) (F_fZ0 : Nat) (C_fZ0 : List AV) (hC_fZ0 : Fixed C_fZ0) (hf_fZ0 : ∀ (x0 : List Int) (r : Bool), fZ0 x0 = some r → Ok Tryz.prog F_fZ0 ((.lst .o 1 (x0.map AV.i)) :: C_fZ0) (.b r)) (sZ1 : Int) (o : Int ⊕ (Unit ⊕ Int)) (h : M_bb sZ0 fZ0 sZ1 = some o) : AWP (OkS Tryz.prog) A247L1 (qL [0, 1, 7, 8] [] (S_bb sZ0 F_fZ0 C_fZ0) (qS (qX 0 [] [] (SX_bb)) (qR V247 (fun r => .i r))) o) (S_bb sZ0 F_fZ0 C_fZ0 sZ1) := by
 unfold M_bb at h
 simp only [ZC, S_bb, A247L1]
 obtain ⟨cZ2, h⟩ | ⟨cZ2, h⟩ := cond_s h
 · obtain ⟨yZ3, hyZ3, h⟩ := bind_s h
   obtain ⟨hyZ3a, hyZ3b⟩ := geti_s hyZ3
   obtain ⟨rZ4, hrZ4, h⟩ := bind_s h
   refine ZF (ZA cZ2 (ZA hyZ3a hyZ3b)) ?_
   refine ZS (ZA cZ2 (ZA hyZ3a (ZA hyZ3b hC_fZ0.1))) (hf_fZ0 _ _ hrZ4) ?_
   refine ZG ?_
   obtain ⟨cZ5, h⟩ | ⟨cZ5, h⟩ := cond_s h
   · cases h
     exact ZL (ZA cZ2 (ZA hyZ3a (ZA hyZ3b cZ5))) (ZA V247.eq_1 (ZA hC_fZ0.2 ((fixed_ren hC_fZ0))))
   · cases h
     exact ZL (ZA cZ2 (ZA hyZ3a (ZA hyZ3b cZ5))) (ZA S_bb.eq_1 (ZA SX_bb.eq_1 (ZA hC_fZ0.2 ((fixed_ren hC_fZ0)))))
 · cases h
   exact ZL cZ2 (ZA S_bb.eq_1 (ZA SX_bb.eq_1 (ZA hC_fZ0.2 ((fixed_ren hC_fZ0)))))
theorem w_ev (sZ0 : List (List Int)) (fZ0 : (List Int) → Option Bool) {r : Int} (h : M_ev sZ0 fZ0 = some r) (F_fZ0 : Nat) (C_fZ0 : List AV) (hC_fZ0 : Fixed C_fZ0) (hf_fZ0 : ∀ (x0 : List Int) (r : Bool), fZ0 x0 = some r → Ok Tryz.prog F_fZ0 ((.lst .o 1 (x0.map AV.i)) :: C_fZ0) (.b r)) : Ok Tryz.prog 247 [.lst .o 1 (sZ0.map (e_Li .o)), .fn F_fZ0 C_fZ0] ((fun r => .i r) r) := by
 refine ok_of_body hmix m247 rfl ?_
 unfold M_ev at h
 simp only [ZC, A247, V247, body_eq]
 obtain ⟨oZ6, hoZ6, h⟩ := bind_s h
 try refine ZF trivial ?_
 refine join_rule (o := oZ6) (blk_rule sideR (loop_rule (w_bb sZ0 fZ0 F_fZ0 C_fZ0 hC_fZ0 hf_fZ0) hoZ6 ?_)) (fun vZ7 hv => ?_) (fun xZ8 hv e τ hne hq => ?_)
 · exact ZK (ZA S_bb.eq_1 (ZA SX_bb.eq_1 (ZA hC_fZ0.2 ((fixed_ren hC_fZ0)))))
 · subst hv
   simp only [] at h
   simp only [ZC, SX_bb, A247R2]
   cases h
   exact ZL trivial (ZA V247.eq_1 (ZA hC_fZ0.2 ((fixed_ren hC_fZ0))))
 · subst hv
   simp only [] at h
   obtain ⟨rfl, qZ9⟩ := hq
   cases h
   exact qZ9
theorem w_ew (nZ0 : TNetwork) (fiberZ0 : Int) {r : Int} (h : M_ew nZ0 fiberZ0 = some r) : Ok Tryz.prog 230 [.agg [.lst .o 1 (nZ0.Nodes.map AV.z), .lst .o 4 (nZ0.Fibers.map (e_TFiber .o))], .i fiberZ0] ((fun r => .i r) r) := by
 refine ok_of_body hmix m230 rfl ?_
 unfold M_ew at h
 simp only [ZC, A230, V230, body_eq]
 obtain ⟨rZ1, hrZ1, h⟩ := bind_s h
 refine ZF trivial ?_
 refine ZU trivial (w_cl _ hrZ1) ?_
 refine ZG ?_
 obtain ⟨rZ2, hrZ2, h⟩ := bind_s h
 refine ZF trivial ?_
 refine ZS trivial (w_ev _ _ hrZ2 248 [.bp (.i fiberZ0) 0] ⟨fun ρ k => by simp only [VS1, VS2, VS3, VS4, VS5, VS6, VT1, VT2, finM_ret, finM_nrm, decide_true, decide_false, List.nodup_nil, List.nodup_cons, oks_p, oks_m, oks_h, ne_eq, not_false_eq_true, Int.reduceEq, Int.reduceNe, true_and, false_and, Nat.reduceSub, Nat.reduceMul, ↓reduceIte, reduceCtorEq, Nat.reduceEqDiff, Nat.reduceAdd, Nat.reduceLeDiff, Int.reduceLE], by simp [mentsL, AV.ments]⟩ (fun _ _ h => w_eu _ _ h)) ?_
 refine ZG ?_
 cases h
 exact ZL trivial V230.eq_1
def S_bc (nZ0 : TNetwork) (fibersZ0 : List Int) (v : Int × List Int) : St := ⟨[(2, .pt 2 0 0), (5, .sl 5 0 v.2.length), (9, .lst .o 1 (fibersZ0.map AV.i)), (10, .i (fibersZ0.length : Int)), (11, .i v.1)], [(2, .var (.agg [.lst .o 1 (nZ0.Nodes.map AV.z), .lst .o 4 (nZ0.Fibers.map (e_TFiber .o))])), (5, .arr 1 (v.2.map AV.i))]⟩
def SX_bc (v : List Int) : St := ⟨[(5, .sl 5 0 v.length)], [(5, .arr 1 (v.map AV.i))]⟩
theorem w_bc (nZ0 : TNetwork) (fibersZ0 : List Int) (sZ1 : Int × List Int) (o : (Int × List Int) ⊕ (List Int)) (h : M_bc nZ0 fibersZ0 sZ1 = some o) : AWP (OkS Tryz.prog) A202L1 (qL [2, 5, 9, 10, 11] [2, 5] (S_bc nZ0 fibersZ0) (qX 0 [5] [5] (SX_bc)) o) (S_bc nZ0 fibersZ0 sZ1) := by
 unfold M_bc at h
 simp only [ZC, S_bc, A202L1]
 obtain ⟨cZ2, h⟩ | ⟨cZ2, h⟩ := cond_s h
 · obtain ⟨yZ3, hyZ3, h⟩ := bind_s h
   obtain ⟨hyZ3a, hyZ3b⟩ := geti_s hyZ3
   obtain ⟨rZ4, hrZ4, h⟩ := bind_s h
   refine ZF (ZA cZ2 (ZA hyZ3a hyZ3b)) ?_
   refine ZS (ZA cZ2 (ZA hyZ3a hyZ3b)) (w_ew _ _ hrZ4) ?_
   refine ZG ?_
   obtain ⟨lZ5, hlZ5, h⟩ := bnd_s h
   have eZ6 : Row.arr 1 [(.i rZ4 : AV)] = Row.arr 1 (lZ5.map AV.i) := by rw [← hlZ5]; rfl
   have jjZ7 : lZ5.length = 1 := by rw [← hlZ5]; rfl
   obtain ⟨uZ8, huZ8, h⟩ := bind_s h
   have huZ8g := grd_s huZ8
   obtain ⟨lZ9, hlZ9, h⟩ := bnd_s h
   have eZ10 : sZ1.2.map AV.i ++ lZ5.map AV.i = lZ9.map AV.i := by rw [← hlZ9, List.map_append]
   have eZ11 : sZ1.2.length + 1 = lZ9.length := by simp [← hlZ5, ← hlZ9] <;> omega
   rw [eZ11] at huZ8g
   cases h
   exact ZL (ZA cZ2 (ZA hyZ3a (ZA hyZ3b (ZA eZ6 (ZA jjZ7 (ZA huZ8g (ZA eZ10 eZ11))))))) (ZA S_bc.eq_1 (ZA SX_bc.eq_1 (ZA hlZ5.symm (ZA hlZ9.symm jjZ7))))
 · cases h
   exact ZL cZ2 (ZA S_bc.eq_1 SX_bc.eq_1)
theorem w_db (nZ0 : TNetwork) (fibersZ0 : List Int) {r : List Int} (h : M_db nZ0 fibersZ0 = some r) : Ok Tryz.prog 202 [.agg [.lst .o 1 (nZ0.Nodes.map AV.z), .lst .o 4 (nZ0.Fibers.map (e_TFiber .o))], .lst .o 1 (fibersZ0.map AV.i)] ((fun r => .lst .u 1 (r.map AV.i)) r) := by
 refine ok_of_body hmix m202 rfl ?_
 unfold M_db at h
 simp only [ZC, A202, V202, body_eq]
 obtain ⟨oZ12, hoZ12, h⟩ := bind_s h
 try refine ZF trivial ?_
 refine join_rule0 (blk_rule0 (loop_rule (w_bc nZ0 fibersZ0) hoZ12 ?_)) ?_
 · exact ZK (ZA S_bc.eq_1 SX_bc.eq_1)
 · simp only [ZC, SX_bc, A202R2]
   cases h
   exact ZL trivial V202.eq_1
theorem w_gh (xZ0 : Int) {r : Int} (h : M_gh xZ0 = some r) : Ok Tryz.prog 259 [.sc (.int .u64 xZ0)] ((fun r => .i r) r) := by
 refine ok_of_body hmix m259 rfl ?_
 unfold M_gh at h
 simp only [ZC, A259, V259, body_eq]
 obtain ⟨oZ2, hoZ2, h⟩ := bind_s h
 try refine ZF trivial ?_
 refine join_rule0 (sh := (fun v => ⟨[(0, .sc (.int .u64 v.1)), (2, .i v.2)], []⟩)) (s := oZ2) ?_ ?_
 · replace h := hoZ2
   obtain ⟨cZ1, h⟩ | ⟨cZ1, h⟩ := cond_s h
   · cases h
     exact ZL cZ1 trivial
   · cases h
     exact ZL cZ1 trivial
 · simp only [ZC, A259R1]
   obtain ⟨oZ4, hoZ4, h⟩ := bind_s h
   try refine ZF trivial ?_
   refine join_rule0 (sh := (fun v => ⟨[(0, .sc (.int .u64 v.1)), (2, .i v.2)], []⟩)) (s := oZ4) ?_ ?_
   · replace h := hoZ4
     obtain ⟨cZ3, h⟩ | ⟨cZ3, h⟩ := cond_s h
     · cases h
       exact ZL cZ3 trivial
     · cases h
       exact ZL cZ3 trivial
   · simp only [ZC, A259R2]
     obtain ⟨oZ6, hoZ6, h⟩ := bind_s h
     try refine ZF trivial ?_
     refine join_rule0 (sh := (fun v => ⟨[(0, .sc (.int .u64 v.1)), (2, .i v.2)], []⟩)) (s := oZ6) ?_ ?_
     · replace h := hoZ6
       obtain ⟨cZ5, h⟩ | ⟨cZ5, h⟩ := cond_s h
       · cases h
         exact ZL cZ5 trivial
       · cases h
         exact ZL cZ5 trivial
     · simp only [ZC, A259R3]
       obtain ⟨yZ7, hyZ7, h⟩ := bind_s h
       obtain ⟨hyZ7a, hyZ7b⟩ := getz_s hyZ7
       cases h
       exact ZL (ZA hyZ7a hyZ7b) V259.eq_1
theorem w_ex (xZ0 : Int) {r : Int} (h : M_ex xZ0 = some r) : Ok Tryz.prog 232 [.sc (.int .u64 xZ0)] ((fun r => .i r) r) := by
 refine ok_of_body hmix m232 rfl ?_
 unfold M_ex at h
 simp only [ZC, A232, V232, body_eq]
 obtain ⟨rZ1, hrZ1, h⟩ := bind_s h
 refine ZF trivial ?_
 refine ZS trivial (w_gh _ hrZ1) ?_
 refine ZG ?_
 cases h
 exact ZL trivial V232.eq_1
theorem w_ey (xZ0 : Int) (yZ0 : Int) {r : Bool} (h : M_ey xZ0 yZ0 = some r) : Ok Tryz.prog 255 [.i xZ0, .i yZ0] ((fun r => .b r) r) := by
 refine ok_of_body hmix m255 rfl ?_
 unfold M_ey at h
 simp only [ZC, A255, V255, body_eq]
 obtain ⟨rZ1, hrZ1, h⟩ := bind_s h
 refine ZF trivial ?_
 refine ZS trivial (w_cc _ hrZ1) ?_
 refine ZG ?_
 obtain ⟨cZ2, h⟩ | ⟨cZ2, h⟩ := cond_s h
 · obtain ⟨rZ3, hrZ3, h⟩ := bind_s h
   refine ZF cZ2 ?_
   refine ZS cZ2 (w_cc _ hrZ3) ?_
   refine ZG ?_
   obtain ⟨cZ4, h⟩ | ⟨cZ4, h⟩ := cond_s h
   · cases h
     exact ZL (ZA cZ2 cZ4) V255.eq_1
   · cases h
     exact ZL (ZA cZ2 cZ4) V255.eq_1
 · cases h
   exact ZL cZ2 V255.eq_1
def S_i (aaZ0 : Int) (abZ0 : Int) (sZ1 : Int × List Int) (v : Int × List Int) : St := ⟨[(0, .sl 1000000000 0 v.2.length), (1, .i aaZ0), (2, .i abZ0), (6, .i sZ1.1), (7, .i v.1)], [(1000000000, .arr 1 (v.2.map AV.i))]⟩
def SX_i (aaZ0 : Int) (abZ0 : Int) (sZ1 : Int × List Int) (v : List Int) : St := ⟨[(0, .sl 1000000000 0 v.length), (1, .i aaZ0), (2, .i abZ0), (6, .i sZ1.1)], [(1000000000, .arr 1 (v.map AV.i))]⟩
theorem w_i (aaZ0 : Int) (abZ0 : Int) (sZ1 : Int × List Int) (sZ3 : Int × List Int) (o : (Int × List Int) ⊕ (List Int)) (h : M_i aaZ0 sZ3 = some o) : AWP (OkS Tryz.prog) A249M1L2 (qL [0, 1, 2, 6, 7] [1000000000] (S_i aaZ0 abZ0 sZ1) (qX 2 [0, 1, 2, 6] [1000000000] (SX_i aaZ0 abZ0 sZ1)) o) (S_i aaZ0 abZ0 sZ1 sZ3) := by
 unfold M_i at h
 simp only [ZC, S_i, A249M1L2]
 obtain ⟨oZ10, hoZ10, h⟩ := bind_s h
 try refine ZF trivial ?_
 refine join_rule0 (sh := (fun v => ⟨[(0, .sl 1000000000 0 sZ3.2.length), (1, .i aaZ0), (2, .i abZ0), (6, .i sZ1.1), (7, .i sZ3.1), (30, .b v)], [(1000000000, .arr 1 (sZ3.2.map AV.i))]⟩)) (s := oZ10) ?_ ?_
 · replace h := hoZ10
   obtain ⟨cZ4, h⟩ | ⟨cZ4, h⟩ := cond_s h
   · obtain ⟨kZ5, hkZ5, h⟩ := bind_s h
     obtain ⟨hkZ5a, hkZ5b⟩ := grd_s hkZ5
     obtain ⟨yZ6, hyZ6, h⟩ := bind_s h
     obtain ⟨kZ7, hkZ7, h⟩ := bind_s h
     obtain ⟨hkZ7a, hkZ7b⟩ := grd_s hkZ7
     obtain ⟨yZ8, hyZ8, h⟩ := bind_s h
     obtain ⟨rZ9, hrZ9, h⟩ := bind_s h
     refine ZF (ZA cZ4 (ZA hkZ5a (ZA hkZ5b (ZA hyZ6 (ZA hkZ7a (ZA hkZ7b hyZ8)))))) ?_
     refine ZS (ZA cZ4 (ZA hkZ5a (ZA hkZ5b (ZA hyZ6 (ZA hkZ7a (ZA hkZ7b hyZ8)))))) (w_ey _ _ hrZ9) ?_
     refine ZG ?_
     cases h
     exact ZL (ZA cZ4 (ZA hkZ5a (ZA hkZ5b (ZA hyZ6 (ZA hkZ7a (ZA hkZ7b hyZ8)))))) trivial
   · cases h
     exact ZL cZ4 trivial
 · simp only [ZC, A249M1R1]
   obtain ⟨cZ11, h⟩ | ⟨cZ11, h⟩ := cond_s h
   · obtain ⟨kZ12, hkZ12, h⟩ := bind_s h
     obtain ⟨hkZ12a, hkZ12b⟩ := grd_s hkZ12
     obtain ⟨yZ13, hyZ13, h⟩ := bind_s h
     obtain ⟨kZ14, hkZ14, h⟩ := bind_s h
     obtain ⟨hkZ14a, hkZ14b⟩ := grd_s hkZ14
     obtain ⟨yZ15, hyZ15, h⟩ := bind_s h
     obtain ⟨lZ16, hlZ16, h⟩ := bnd_s h
     have eZ17 : (sZ3.2.map AV.i).set (Int.toNat sZ3.1) (.i yZ13) = lZ16.map AV.i := by rw [← hlZ16, List.map_set]
     obtain ⟨yZ18, hyZ18, h⟩ := bind_s h
     obtain ⟨lZ19, hlZ19, h⟩ := bnd_s h
     have eZ20 : (lZ16.map AV.i).set (Int.toNat (IntKind.wrap .i64 (sZ3.1 - 1))) (.i yZ15) = lZ19.map AV.i := by rw [← hlZ19, List.map_set]
     cases h
     exact ZL (ZA cZ11 (ZA hkZ12a (ZA hkZ12b (ZA hyZ13 (ZA hkZ14a (ZA hkZ14b (ZA hyZ15 (ZA eZ17 (ZA hyZ18 eZ20))))))))) (ZA S_i.eq_1 (ZA SX_i.eq_1 (ZA hlZ16.symm hlZ19.symm)))
   · cases h
     exact ZL cZ11 (ZA S_i.eq_1 SX_i.eq_1)
def S_ab (aaZ0 : Int) (abZ0 : Int) (v : Int × List Int) : St := ⟨[(0, .sl 1000000000 0 v.2.length), (1, .i aaZ0), (2, .i abZ0), (6, .i v.1)], [(1000000000, .arr 1 (v.2.map AV.i))]⟩
def SX_ab (v : List Int) : St := ⟨[], [(1000000000, .arr 1 (v.map AV.i))]⟩
theorem w_ab (aaZ0 : Int) (abZ0 : Int) (sZ1 : Int × List Int) (o : (Int × List Int) ⊕ (List Int)) (h : M_ab aaZ0 abZ0 sZ1 = some o) : AWP (OkS Tryz.prog) A249M1L4 (qL [0, 1, 2, 6] [1000000000] (S_ab aaZ0 abZ0) (qX 0 [] [1000000000] (SX_ab)) o) (S_ab aaZ0 abZ0 sZ1) := by
 unfold M_ab at h
 simp only [ZC, S_ab, A249M1L4]
 obtain ⟨cZ2, h⟩ | ⟨cZ2, h⟩ := cond_s h
 · obtain ⟨oZ23, hoZ23, h⟩ := bind_s h
   try refine ZF cZ2 ?_
   refine join_rule0 (sh := (fun v => ⟨[(0, .sl 1000000000 0 v.length), (1, .i aaZ0), (2, .i abZ0), (6, .i sZ1.1)], [(1000000000, .arr 1 (v.map AV.i))]⟩)) (s := oZ23) ?_ ?_
   · replace h := hoZ23
     obtain ⟨oZ21, hoZ21, h⟩ := bind_s h
     try refine ZF cZ2 ?_
     first | refine tail_rule0 (blk_rule0 (loop_rule (w_i aaZ0 abZ0 sZ1) hoZ21 ?_)) (fun τ qZ22 => ?_) | refine tail_blk0 (loop_rule (w_i aaZ0 abZ0 sZ1) hoZ21 ?_) (fun τ qZ22 => ?_)
     · exact ZK (ZA S_i.eq_1 SX_i.eq_1)
     · cases h
       try refine ZF trivial ?_
       refine ⟨rfl, Shp.sub qZ22 (by decide) (by decide) ?_⟩
       exact ZK SX_i.eq_1
   · simp only [ZC, A249M1R3]
     cases h
     exact ZL cZ2 (ZA S_ab.eq_1 SX_ab.eq_1)
 · cases h
   exact ZL cZ2 (ZA S_ab.eq_1 SX_ab.eq_1)
theorem w_ez (aaZ0 : Int) (abZ0 : Int) (acZ0 : List Int) {r : List Int} (h : M_ez aaZ0 abZ0 acZ0 = some r) : OkM Tryz.prog 249 [.sl 1000000000 0 acZ0.length, .i aaZ0, .i abZ0] [(1000000000, .arr 1 (acZ0.map AV.i))] ((fun (r : List Int) => .tup []) r) ((fun (r : List Int) => [(1000000000, .arr 1 (r.map AV.i))]) r) := by
 refine okM_of_body (lr := [1000000000]) hmix m249M1 rfl rfl ?_
 unfold M_ez at h
 simp only [ZC, A249M1, V249M1]
 obtain ⟨oZ24, hoZ24, h⟩ := bind_s h
 try refine ZF trivial ?_
 first | refine tail_rule0 (blk_rule0 (loop_rule (w_ab aaZ0 abZ0) hoZ24 ?_)) (fun τ qZ25 => ?_) | refine tail_blk0 (loop_rule (w_ab aaZ0 abZ0) hoZ24 ?_) (fun τ qZ25 => ?_)
 · exact ZK (ZA S_ab.eq_1 SX_ab.eq_1)
 · cases h
   refine finM_shp qZ25 (by decide) ?_ rfl
   exact ZK (ZA V249M1.eq_1 SX_ab.eq_1)
def S_bw (aaZ0 : Int) (abZ0 : Int) (acZ0 : Int) (adZ0 : List Int) (v : Unit) : St := ⟨[(0, .sl 1000000000 0 adZ0.length), (1, .i aaZ0), (2, .i abZ0), (3, .i acZ0), (8, .b true), (9, .b true)], [(1000000000, .arr 1 (adZ0.map AV.i))]⟩
def SX_bw (v : Empty) : St := ⟨[], []⟩
theorem w_bw (aaZ0 : Int) (abZ0 : Int) (acZ0 : Int) (adZ0 : List Int) (sZ1 : Unit) (o : Unit ⊕ (Empty ⊕ (List Int))) (h : M_bw aaZ0 abZ0 acZ0 adZ0 sZ1 = some o) : AWP (OkS Tryz.prog) A231M1L1 (qL [0, 1, 2, 3, 8, 9] [1000000000] (S_bw aaZ0 abZ0 acZ0 adZ0) (qS (qX 0 [] [] (SX_bw)) (qM V231M1 [1000000000] (fun (r : List Int) => .tup []) (fun (r : List Int) => [(1000000000, .arr 1 (r.map AV.i))]))) o) (S_bw aaZ0 abZ0 acZ0 adZ0 sZ1) := by
 unfold M_bw at h
 simp only [ZC, S_bw, A231M1L1]
 obtain ⟨cZ2, h⟩ | ⟨cZ2, h⟩ := cond_s h
 · obtain ⟨rZ3, hrZ3, h⟩ := bind_s h
   refine ZF cZ2 ?_
   refine ZW cZ2 (w_ez _ _ _ hrZ3) (h2 := by first | exact nm_ok [1000000000] rfl (by decide +kernel) | exact nm_ok2 [1000000000] [] rfl (by decide +kernel) ZQ | exact ZQ) (hk := ?_)
   refine ZG ?_
   cases h
   exact ZL cZ2 V231M1.eq_1
 · obtain ⟨cZ4, h⟩ | ⟨cZ4, h⟩ := cond_s h
   · cases h
   · cases h
theorem w_gc (aaZ0 : Int) (abZ0 : Int) (acZ0 : Int) (adZ0 : List Int) {r : List Int} (h : M_gc aaZ0 abZ0 acZ0 adZ0 = some r) : OkM Tryz.prog 231 [.sl 1000000000 0 adZ0.length, .i aaZ0, .i abZ0, .i acZ0] [(1000000000, .arr 1 (adZ0.map AV.i))] ((fun (r : List Int) => .tup []) r) ((fun (r : List Int) => [(1000000000, .arr 1 (r.map AV.i))]) r) := by
 refine okM_of_body (lr := [1000000000]) hmix m231M1 rfl rfl ?_
 unfold M_gc at h
 simp only [ZC, A231M1, V231M1]
 obtain ⟨oZ5, hoZ5, h⟩ := bind_s h
 try refine ZF trivial ?_
 first | refine tail_rule (o := oZ5) (blk_rule sideM (loop_rule (w_bw aaZ0 abZ0 acZ0 adZ0) hoZ5 ?_)) (fun vZ6 hv τ qZ8 => ?_) (fun xZ7 hv e τ hne hq => ?_) | refine tail_blk (o := oZ5) sideM (loop_rule (w_bw aaZ0 abZ0 acZ0 adZ0) hoZ5 ?_) (fun vZ6 hv τ qZ8 => ?_) (fun xZ7 hv e τ hne hq => ?_)
 · exact ZK (ZA S_bw.eq_1 SX_bw.eq_1)
 · exact vZ6.elim
 · subst hv
   simp only [] at h
   obtain ⟨rfl, qZ9⟩ := hq
   cases h
   exact qZ9
theorem w_fa (aaZ0 : List Int) {r : List Int} (h : M_fa aaZ0 = some r) : OkM Tryz.prog 203 [.sl 1000000000 0 aaZ0.length] [(1000000000, .arr 1 (aaZ0.map AV.i))] ((fun (r : List Int) => .tup []) r) ((fun (r : List Int) => [(1000000000, .arr 1 (r.map AV.i))]) r) := by
 refine okM_of_body (lr := [1000000000]) hmix m203M1 rfl rfl ?_
 unfold M_fa at h
 simp only [ZC, A203M1, V203M1]
 obtain ⟨rZ1, hrZ1, h⟩ := bind_s h
 refine ZF trivial ?_
 refine ZS trivial (w_ex _ hrZ1) ?_
 refine ZG ?_
 obtain ⟨rZ2, hrZ2, h⟩ := bind_s h
 refine ZF trivial ?_
 refine ZW trivial (w_gc _ _ _ _ hrZ2) (h2 := by first | exact nm_ok [1000000000] rfl (by decide +kernel) | exact nm_ok2 [1000000000] [] rfl (by decide +kernel) ZQ | exact ZQ) (hk := ?_)
 refine ZG ?_
 cases h
 exact ZL trivial V203M1.eq_1
def S_j (aaZ0 : Nat) (abZ0 : Nat) (sZ2 : Int) (v : Int × Int × List Int) : St := ⟨[(0, .sl 1000000000 aaZ0 abZ0), (3, .i v.1), (4, .sl 1000000000 (aaZ0 + (Int.toNat sZ2)) (abZ0 - (Int.toNat sZ2))), (5, .i v.2.1)], [(1000000000, .arr 1 (v.2.2.map AV.i))]⟩
def SX_j (aaZ0 : Nat) (abZ0 : Nat) (v : Int × List Int) : St := ⟨[(0, .sl 1000000000 aaZ0 abZ0), (3, .i v.1)], [(1000000000, .arr 1 (v.2.map AV.i))]⟩
theorem w_j (aaZ0 : Nat) (abZ0 : Nat) (sZ2 : Int) (sZ10 : Int × Int × List Int) (o : (Int × Int × List Int) ⊕ (Int × List Int)) (h : M_j aaZ0 abZ0 sZ2 sZ10 = some o) : AWP (OkS Tryz.prog) A204M1L1 (qL [0, 3, 4, 5] [1000000000] (S_j aaZ0 abZ0 sZ2) (qX 2 [0, 3] [1000000000] (SX_j aaZ0 abZ0)) o) (S_j aaZ0 abZ0 sZ2 sZ10) := by
 unfold M_j at h
 simp only [ZC, S_j, A204M1L1]
 obtain ⟨cZ11, h⟩ | ⟨cZ11, h⟩ := cond_s h
 · obtain ⟨kZ12, hkZ12, h⟩ := bind_s h
   obtain ⟨hkZ12a, hkZ12b⟩ := grd_s hkZ12
   obtain ⟨yZ13, hyZ13, h⟩ := bind_s h
   obtain ⟨kZ14, hkZ14, h⟩ := bind_s h
   obtain ⟨hkZ14a, hkZ14b⟩ := grd_s hkZ14
   obtain ⟨yZ15, hyZ15, h⟩ := bind_s h
   obtain ⟨cZ16, h⟩ | ⟨cZ16, h⟩ := cond_s h
   · obtain ⟨kZ17, hkZ17, h⟩ := bind_s h
     obtain ⟨hkZ17a, hkZ17b⟩ := grd_s hkZ17
     obtain ⟨yZ18, hyZ18, h⟩ := bind_s h
     obtain ⟨lZ19, hlZ19, h⟩ := bnd_s h
     have eZ20 : (sZ10.2.2.map AV.i).set (aaZ0 + (Int.toNat sZ10.1)) (.i yZ13) = lZ19.map AV.i := by rw [← hlZ19, List.map_set]
     cases h
     exact ZL (ZA cZ11 (ZA hkZ12a (ZA hkZ12b (ZA hyZ13 (ZA hkZ14a (ZA hkZ14b (ZA hyZ15 (ZA cZ16 (ZA hkZ17a (ZA hkZ17b (ZA hyZ18 eZ20))))))))))) (ZA S_j.eq_1 (ZA SX_j.eq_1 hlZ19.symm))
   · cases h
     exact ZL (ZA cZ11 (ZA hkZ12a (ZA hkZ12b (ZA hyZ13 (ZA hkZ14a (ZA hkZ14b (ZA hyZ15 cZ16))))))) (ZA S_j.eq_1 SX_j.eq_1)
 · cases h
   exact ZL cZ11 (ZA S_j.eq_1 SX_j.eq_1)
def S_bd (aaZ0 : Nat) (abZ0 : Nat) (acZ0 : List Int) (v : Int) : St := ⟨[(0, .sl 1000000000 aaZ0 abZ0), (3, .i v)], [(1000000000, .arr 1 (acZ0.map AV.i))]⟩
def SX_bd (aaZ0 : Nat) (abZ0 : Nat) (acZ0 : List Int) (v : Unit) : St := ⟨[(0, .sl 1000000000 aaZ0 abZ0)], [(1000000000, .arr 1 (acZ0.map AV.i))]⟩
theorem w_bd (aaZ0 : Nat) (abZ0 : Nat) (acZ0 : List Int) (sZ2 : Int) (o : Int ⊕ (Unit ⊕ (Nat × Nat × List Int))) (h : M_bd aaZ0 abZ0 acZ0 sZ2 = some o) : AWP (OkS Tryz.prog) A204M1L3 (qL [0, 3] [1000000000] (S_bd aaZ0 abZ0 acZ0) (qS (qX 0 [0] [1000000000] (SX_bd aaZ0 abZ0 acZ0)) (qM V204M1 [1000000000] (fun (r : Nat × Nat × List Int) => .sl 1000000000 r.1 r.2.1) (fun (r : Nat × Nat × List Int) => [(1000000000, .arr 1 (r.2.2.map AV.i))]))) o) (S_bd aaZ0 abZ0 acZ0 sZ2) := by
 unfold M_bd at h
 simp only [ZC, S_bd, A204M1L3]
 obtain ⟨cZ3, h⟩ | ⟨cZ3, h⟩ := cond_s h
 · obtain ⟨kZ4, hkZ4, h⟩ := bind_s h
   obtain ⟨hkZ4a, hkZ4b⟩ := grd_s hkZ4
   obtain ⟨yZ5, hyZ5, h⟩ := bind_s h
   obtain ⟨kZ6, hkZ6, h⟩ := bind_s h
   obtain ⟨hkZ6a, hkZ6b⟩ := grd_s hkZ6
   obtain ⟨yZ7, hyZ7, h⟩ := bind_s h
   obtain ⟨cZ8, h⟩ | ⟨cZ8, h⟩ := cond_s h
   · obtain ⟨uZ9, huZ9, h⟩ := bind_s h
     obtain ⟨huZ9a, huZ9b, huZ9c, huZ9d⟩ := grd_s huZ9
     obtain ⟨oZ21, hoZ21, h⟩ := bind_s h
     try refine ZF (ZA cZ3 (ZA hkZ4a (ZA hkZ4b (ZA hyZ5 (ZA hkZ6a (ZA hkZ6b (ZA hyZ7 (ZA cZ8 (ZA huZ9a (ZA huZ9b (ZA huZ9c huZ9d))))))))))) ?_
     refine join_rule0 (blk_rule0 (loop_rule (w_j aaZ0 abZ0 sZ2) hoZ21 ?_)) ?_
     · exact ZK (ZA S_j.eq_1 SX_j.eq_1)
     · simp only [ZC, SX_j, A204M1R2]
       obtain ⟨uZ22, huZ22, h⟩ := bind_s h
       obtain ⟨huZ22a, huZ22b, huZ22c, huZ22d⟩ := grd_s huZ22
       obtain ⟨lZ23, hlZ23, h⟩ := bnd_s h
       have eZ24 : over (oZ21.2.map AV.i) (aaZ0 + (Int.toNat oZ21.1)) (List.replicate (abZ0 - (Int.toNat oZ21.1)) (.i 0 : AV)) = lZ23.map AV.i := by rw [← hlZ23, ← over_map] <;> simp [List.map_take]
       try simp only [Int.toNat_natCast] at eZ24
       have eZ25 : lZ23.length = oZ21.2.length := by rw [← hlZ23]; exact over_length _ _ _
       obtain ⟨uZ26, huZ26, h⟩ := bind_s h
       obtain ⟨huZ26a, huZ26b, huZ26c, huZ26d⟩ := grd_s huZ26
       cases h
       exact ZL (ZA cZ3 (ZA hkZ4a (ZA hkZ4b (ZA hyZ5 (ZA hkZ6a (ZA hkZ6b (ZA hyZ7 (ZA cZ8 (ZA huZ9a (ZA huZ9b (ZA huZ9c (ZA huZ9d (ZA huZ22a (ZA huZ22b (ZA huZ22c (ZA huZ22d (ZA eZ24 (ZA huZ26a (ZA huZ26b (ZA huZ26c huZ26d)))))))))))))))))))) (ZA V204M1.eq_1 eZ25)
   · cases h
     exact ZL (ZA cZ3 (ZA hkZ4a (ZA hkZ4b (ZA hyZ5 (ZA hkZ6a (ZA hkZ6b (ZA hyZ7 cZ8))))))) (ZA S_bd.eq_1 SX_bd.eq_1)
 · cases h
   exact ZL cZ3 (ZA S_bd.eq_1 SX_bd.eq_1)
theorem w_fb (aaZ0 : Nat) (abZ0 : Nat) (acZ0 : List Int) {r : Nat × Nat × List Int} (h : M_fb aaZ0 abZ0 acZ0 = some r) : OkM Tryz.prog 204 [.sl 1000000000 aaZ0 abZ0] [(1000000000, .arr 1 (acZ0.map AV.i))] ((fun (r : Nat × Nat × List Int) => .sl 1000000000 r.1 r.2.1) r) ((fun (r : Nat × Nat × List Int) => [(1000000000, .arr 1 (r.2.2.map AV.i))]) r) := by
 refine okM_of_body (lr := [1000000000]) hmix m204M1 rfl rfl ?_
 unfold M_fb at h
 simp only [ZC, A204M1, V204M1]
 obtain ⟨cZ1, h⟩ | ⟨cZ1, h⟩ := cond_s h
 · cases h
   exact ZL cZ1 V204M1.eq_1
 · obtain ⟨oZ27, hoZ27, h⟩ := bind_s h
   try refine ZF cZ1 ?_
   refine join_rule (o := oZ27) (blk_rule sideM (loop_rule (w_bd aaZ0 abZ0 acZ0) hoZ27 ?_)) (fun vZ28 hv => ?_) (fun xZ29 hv e τ hne hq => ?_)
   · exact ZK (ZA S_bd.eq_1 SX_bd.eq_1)
   · subst hv
     simp only [] at h
     simp only [ZC, SX_bd, A204M1R4]
     cases h
     exact ZL cZ1 V204M1.eq_1
   · subst hv
     simp only [] at h
     obtain ⟨rfl, qZ30⟩ := hq
     cases h
     exact qZ30
def S_k (aZ0 : List Int) (bZ0 : List Int) (v : Int × List Int) : St := ⟨[(1, .lst .o 1 (bZ0.map AV.i)), (5, .sl 5 0 v.2.length), (9, .lst .o 1 (aZ0.map AV.i)), (10, .i (aZ0.length : Int)), (11, .i v.1)], [(5, .arr 1 (v.2.map AV.i))]⟩
def SX_k (v : List Int) : St := ⟨[(5, .sl 5 0 v.length)], [(5, .arr 1 (v.map AV.i))]⟩
theorem w_k (aZ0 : List Int) (bZ0 : List Int) (sZ1 : Int × List Int) (o : (Int × List Int) ⊕ (List Int)) (h : M_k aZ0 bZ0 sZ1 = some o) : AWP (OkS Tryz.prog) A140L1 (qL [1, 5, 9, 10, 11] [5] (S_k aZ0 bZ0) (qX 0 [5] [5] (SX_k)) o) (S_k aZ0 bZ0 sZ1) := by
 unfold M_k at h
 simp only [ZC, S_k, A140L1]
 obtain ⟨cZ2, h⟩ | ⟨cZ2, h⟩ := cond_s h
 · obtain ⟨yZ3, hyZ3, h⟩ := bind_s h
   obtain ⟨hyZ3a, hyZ3b⟩ := geti_s hyZ3
   obtain ⟨rZ4, hrZ4, h⟩ := bind_s h
   refine ZF (ZA cZ2 (ZA hyZ3a hyZ3b)) ?_
   refine ZS (ZA cZ2 (ZA hyZ3a hyZ3b)) (w_ck _ _ hrZ4) ?_
   refine ZG ?_
   obtain ⟨cZ5, h⟩ | ⟨cZ5, h⟩ := cond_s h
   · obtain ⟨lZ6, hlZ6, h⟩ := bnd_s h
     have eZ7 : Row.arr 1 [(.i yZ3 : AV)] = Row.arr 1 (lZ6.map AV.i) := by rw [← hlZ6]; rfl
     have jjZ8 : lZ6.length = 1 := by rw [← hlZ6]; rfl
     obtain ⟨uZ9, huZ9, h⟩ := bind_s h
     have huZ9g := grd_s huZ9
     obtain ⟨lZ10, hlZ10, h⟩ := bnd_s h
     have eZ11 : sZ1.2.map AV.i ++ lZ6.map AV.i = lZ10.map AV.i := by rw [← hlZ10, List.map_append]
     have eZ12 : sZ1.2.length + 1 = lZ10.length := by simp [← hlZ6, ← hlZ10] <;> omega
     rw [eZ12] at huZ9g
     cases h
     exact ZL (ZA cZ2 (ZA hyZ3a (ZA hyZ3b (ZA cZ5 (ZA eZ7 (ZA jjZ8 (ZA huZ9g (ZA eZ11 eZ12)))))))) (ZA S_k.eq_1 (ZA SX_k.eq_1 (ZA hlZ6.symm (ZA hlZ10.symm jjZ8))))
   · cases h
     exact ZL (ZA cZ2 (ZA hyZ3a (ZA hyZ3b cZ5))) (ZA S_k.eq_1 SX_k.eq_1)
 · cases h
   exact ZL cZ2 (ZA S_k.eq_1 SX_k.eq_1)
theorem w_ce (aZ0 : List Int) (bZ0 : List Int) {r : List Int} (h : M_ce aZ0 bZ0 = some r) : Ok Tryz.prog 140 [.lst .o 1 (aZ0.map AV.i), .lst .o 1 (bZ0.map AV.i)] ((fun r => .lst .u 1 (r.map AV.i)) r) := by
 refine ok_of_body hmix m140 rfl ?_
 unfold M_ce at h
 simp only [ZC, A140, V140, body_eq]
 obtain ⟨oZ13, hoZ13, h⟩ := bind_s h
 try refine ZF trivial ?_
 refine join_rule0 (blk_rule0 (loop_rule (w_k aZ0 bZ0) hoZ13 ?_)) ?_
 · exact ZK (ZA S_k.eq_1 SX_k.eq_1)
 · simp only [ZC, SX_k, A140R2]
   obtain ⟨rZ14, hrZ14, h⟩ := bind_s h
   refine ZF trivial ?_
   refine ZW trivial (w_fa _ hrZ14) (h2 := by first | exact nm_ok [1000000000] rfl (by decide +kernel) | exact nm_ok2 [1000000000] [] rfl (by decide +kernel) ZQ | exact ZQ) (hk := ?_)
   refine ZG ?_
   obtain ⟨rZ15, hrZ15, h⟩ := bind_s h
   refine ZF trivial ?_
   refine ZW trivial (w_fb _ _ _ hrZ15) (h2 := by first | exact nm_ok [1000000000] rfl (by decide +kernel) | exact nm_ok2 [1000000000] [] rfl (by decide +kernel) ZQ | exact ZQ) (hk := ?_)
   refine ZG ?_
   obtain ⟨lZ16, hlZ16, h⟩ := bnd_s h
   have eZ17 : sub (rZ15.2.2.map AV.i) rZ15.1 rZ15.2.1 = lZ16.map AV.i := by rw [sub_mapT, hlZ16]
   cases h
   exact ZL eZ17 V140.eq_1
theorem w_dc (nZ0 : TNetwork) (aZ0 : List Int) (bZ0 : List Int) {r : Bool} (h : M_dc nZ0 aZ0 bZ0 = some r) : Ok Tryz.prog 136 [.agg [.lst .o 1 (nZ0.Nodes.map AV.z), .lst .o 4 (nZ0.Fibers.map (e_TFiber .o))], .lst .o 1 (aZ0.map AV.i), .lst .o 1 (bZ0.map AV.i)] ((fun r => .b r) r) := by
 refine ok_of_body hmix m136 rfl ?_
 unfold M_dc at h
 simp only [ZC, A136, V136, body_eq]
 obtain ⟨rZ1, hrZ1, h⟩ := bind_s h
 refine ZF trivial ?_
 refine ZU trivial (w_db _ _ hrZ1) ?_
 refine ZG ?_
 obtain ⟨rZ2, hrZ2, h⟩ := bind_s h
 refine ZF trivial ?_
 refine ZU trivial (w_db _ _ hrZ2) ?_
 refine ZG ?_
 obtain ⟨rZ3, hrZ3, h⟩ := bind_s h
 refine ZF trivial ?_
 refine ZU trivial (w_ce _ _ hrZ3) ?_
 refine ZG ?_
 cases h
 exact ZL trivial V136.eq_1
theorem w_fc (nZ0 : TNetwork) (sZ0 : TService) {r : Bool} (h : M_fc nZ0 sZ0 = some r) : Ok Tryz.prog 94 [.agg [.lst .o 1 (nZ0.Nodes.map AV.z), .lst .o 4 (nZ0.Fibers.map (e_TFiber .o))], .agg [.i sZ0.Id, .i sZ0.Class, .i sZ0.Work.Start, .lst .o 1 (sZ0.Work.Fibers.map AV.i), .i sZ0.WorkBlock.First, .i sZ0.WorkBlock.Count, .i sZ0.Spare.Start, .lst .o 1 (sZ0.Spare.Fibers.map AV.i), .i sZ0.SpareBlock.First, .i sZ0.SpareBlock.Count]] ((fun r => .b r) r) := by
 refine ok_of_body hmix m94 rfl ?_
 unfold M_fc at h
 simp only [ZC, A94, V94, body_eq]
 obtain ⟨rZ1, hrZ1, h⟩ := bind_s h
 refine ZF trivial ?_
 refine ZU trivial (w_cz _ _ hrZ1) ?_
 refine ZG ?_
 obtain ⟨oZ8, hoZ8, h⟩ := bind_s h
 try refine ZF trivial ?_
 refine join_rule0 (sh := (fun v => ⟨[(2, .pt 2 0 0), (3, .pt 3 0 0), (5, .sl 5 0 rZ1.1.length), (35, .b v)], [(2, .var (.agg [.lst .o 1 (nZ0.Nodes.map AV.z), .lst .o 4 (nZ0.Fibers.map (e_TFiber .o))])), (3, .var (.agg [.i sZ0.Id, .i sZ0.Class, .i sZ0.Work.Start, .lst .o 1 (sZ0.Work.Fibers.map AV.i), .i sZ0.WorkBlock.First, .i sZ0.WorkBlock.Count, .i sZ0.Spare.Start, .lst .o 1 (sZ0.Spare.Fibers.map AV.i), .i sZ0.SpareBlock.First, .i sZ0.SpareBlock.Count])), (5, .arr 1 (rZ1.1.map AV.i))]⟩)) (s := oZ8) ?_ ?_
 · replace h := hoZ8
   obtain ⟨rZ2, hrZ2, h⟩ := bind_s h
   refine ZF trivial ?_
   refine ZS trivial (w_c _ _ _ hrZ2) ?_
   refine ZG ?_
   obtain ⟨cZ3, h⟩ | ⟨cZ3, h⟩ := cond_s h
   · cases h
     exact ZL cZ3 trivial
   · obtain ⟨rZ4, hrZ4, h⟩ := bind_s h
     refine ZF cZ3 ?_
     refine ZS cZ3 (w_c _ _ _ hrZ4) ?_
     refine ZG ?_
     obtain ⟨cZ5, h⟩ | ⟨cZ5, h⟩ := cond_s h
     · cases h
       exact ZL (ZA cZ3 cZ5) trivial
     · obtain ⟨cZ6, h⟩ | ⟨cZ6, h⟩ := cond_s h
       · cases h
         exact ZL (ZA cZ3 (ZA cZ5 cZ6)) trivial
       · obtain ⟨rZ7, hrZ7, h⟩ := bind_s h
         refine ZF (ZA cZ3 (ZA cZ5 cZ6)) ?_
         refine ZS (ZA cZ3 (ZA cZ5 cZ6)) (w_da _ hrZ7) ?_
         refine ZG ?_
         cases h
         exact ZL (ZA cZ3 (ZA cZ5 cZ6)) trivial
 · simp only [ZC, A94R1]
   obtain ⟨cZ9, h⟩ | ⟨cZ9, h⟩ := cond_s h
   · cases h
     exact ZL cZ9 V94.eq_1
   · obtain ⟨cZ10, h⟩ | ⟨cZ10, h⟩ := cond_s h
     · obtain ⟨oZ13, hoZ13, h⟩ := bind_s h
       try refine ZF (ZA cZ9 cZ10) ?_
       refine join_rule0 (sh := (fun v => ⟨[(4, .b v)], []⟩)) (s := oZ13) ?_ ?_
       · replace h := hoZ13
         obtain ⟨cZ11, h⟩ | ⟨cZ11, h⟩ := cond_s h
         · obtain ⟨cZ12, h⟩ | ⟨cZ12, h⟩ := cond_s h
           · cases h
             exact ZL (ZA cZ9 (ZA cZ10 (ZA cZ11 cZ12))) trivial
           · cases h
             exact ZL (ZA cZ9 (ZA cZ10 (ZA cZ11 cZ12))) trivial
         · cases h
           exact ZL (ZA cZ9 (ZA cZ10 cZ11)) trivial
       · simp only [ZC, A94R2]
         cases h
         exact ZL (ZA cZ9 cZ10) V94.eq_1
     · obtain ⟨rZ14, hrZ14, h⟩ := bind_s h
       refine ZF (ZA cZ9 cZ10) ?_
       refine ZU (ZA cZ9 cZ10) (w_cz _ _ hrZ14) ?_
       refine ZG ?_
       obtain ⟨cZ15, h⟩ | ⟨cZ15, h⟩ := cond_s h
       · obtain ⟨rZ16, hrZ16, h⟩ := bind_s h
         refine ZF (ZA cZ9 (ZA cZ10 cZ15)) ?_
         refine ZS (ZA cZ9 (ZA cZ10 cZ15)) (w_da _ hrZ16) ?_
         refine ZG ?_
         obtain ⟨cZ17, h⟩ | ⟨cZ17, h⟩ := cond_s h
         · obtain ⟨kZ18, hkZ18, h⟩ := bind_s h
           obtain ⟨hkZ18a, hkZ18b⟩ := grd_s hkZ18
           obtain ⟨yZ19, hyZ19, h⟩ := bind_s h
           obtain ⟨kZ20, hkZ20, h⟩ := bind_s h
           obtain ⟨hkZ20a, hkZ20b⟩ := grd_s hkZ20
           obtain ⟨yZ21, hyZ21, h⟩ := bind_s h
           obtain ⟨cZ22, h⟩ | ⟨cZ22, h⟩ := cond_s h
           · obtain ⟨kZ23, hkZ23, h⟩ := bind_s h
             obtain ⟨hkZ23a, hkZ23b⟩ := grd_s hkZ23
             obtain ⟨yZ24, hyZ24, h⟩ := bind_s h
             obtain ⟨kZ25, hkZ25, h⟩ := bind_s h
             obtain ⟨hkZ25a, hkZ25b⟩ := grd_s hkZ25
             obtain ⟨yZ26, hyZ26, h⟩ := bind_s h
             obtain ⟨cZ27, h⟩ | ⟨cZ27, h⟩ := cond_s h
             · obtain ⟨rZ28, hrZ28, h⟩ := bind_s h
               refine ZF (ZA cZ9 (ZA cZ10 (ZA cZ15 (ZA cZ17 (ZA hkZ18a (ZA hkZ18b (ZA hyZ19 (ZA hkZ20a (ZA hkZ20b (ZA hyZ21 (ZA cZ22 (ZA hkZ23a (ZA hkZ23b (ZA hyZ24 (ZA hkZ25a (ZA hkZ25b (ZA hyZ26 cZ27))))))))))))))))) ?_
               refine ZS (ZA cZ9 (ZA cZ10 (ZA cZ15 (ZA cZ17 (ZA hkZ18a (ZA hkZ18b (ZA hyZ19 (ZA hkZ20a (ZA hkZ20b (ZA hyZ21 (ZA cZ22 (ZA hkZ23a (ZA hkZ23b (ZA hyZ24 (ZA hkZ25a (ZA hkZ25b (ZA hyZ26 cZ27))))))))))))))))) (w_dc _ _ _ hrZ28) ?_
               refine ZG ?_
               cases h
               exact ZL (ZA cZ9 (ZA cZ10 (ZA cZ15 (ZA cZ17 (ZA hkZ18a (ZA hkZ18b (ZA hyZ19 (ZA hkZ20a (ZA hkZ20b (ZA hyZ21 (ZA cZ22 (ZA hkZ23a (ZA hkZ23b (ZA hyZ24 (ZA hkZ25a (ZA hkZ25b (ZA hyZ26 cZ27))))))))))))))))) V94.eq_1
             · cases h
               exact ZL (ZA cZ9 (ZA cZ10 (ZA cZ15 (ZA cZ17 (ZA hkZ18a (ZA hkZ18b (ZA hyZ19 (ZA hkZ20a (ZA hkZ20b (ZA hyZ21 (ZA cZ22 (ZA hkZ23a (ZA hkZ23b (ZA hyZ24 (ZA hkZ25a (ZA hkZ25b (ZA hyZ26 cZ27))))))))))))))))) V94.eq_1
           · cases h
             exact ZL (ZA cZ9 (ZA cZ10 (ZA cZ15 (ZA cZ17 (ZA hkZ18a (ZA hkZ18b (ZA hyZ19 (ZA hkZ20a (ZA hkZ20b (ZA hyZ21 cZ22)))))))))) V94.eq_1
         · cases h
           exact ZL (ZA cZ9 (ZA cZ10 (ZA cZ15 cZ17))) V94.eq_1
       · cases h
         exact ZL (ZA cZ9 (ZA cZ10 cZ15)) V94.eq_1
theorem w_dd (bZ0 : TBlock) {r : Int} (h : M_dd bZ0 = some r) : Ok Tryz.prog 69 [.agg [.i bZ0.First, .i bZ0.Count]] ((fun r => .i r) r) := by
 refine ok_of_body hmix m69 rfl ?_
 unfold M_dd at h
 simp only [ZC, A69, V69, body_eq]
 obtain ⟨uZ1, huZ1, h⟩ := bind_s h
 have huZ1g := grd_s huZ1
 obtain ⟨uZ2, huZ2, h⟩ := bind_s h
 have huZ2g := grd_s huZ2
 cases h
 exact ZL (ZA huZ1g huZ2g) V69.eq_1
theorem w_gd (aZ0 : TLight) (bZ0 : TLight) {r : Bool} (h : M_gd aZ0 bZ0 = some r) : Ok Tryz.prog 205 [.agg [.i aZ0.Id, .i aZ0.Route.Start, .lst .o 1 (aZ0.Route.Fibers.map AV.i), .i aZ0.Block.First, .i aZ0.Block.Count], .agg [.i bZ0.Id, .i bZ0.Route.Start, .lst .o 1 (bZ0.Route.Fibers.map AV.i), .i bZ0.Block.First, .i bZ0.Block.Count]] ((fun r => .b r) r) := by
 refine ok_of_body hmix m205 rfl ?_
 unfold M_gd at h
 simp only [ZC, A205, V205, body_eq]
 obtain ⟨rZ1, hrZ1, h⟩ := bind_s h
 refine ZF trivial ?_
 refine ZS trivial (w_dd _ hrZ1) ?_
 refine ZG ?_
 obtain ⟨rZ2, hrZ2, h⟩ := bind_s h
 refine ZF trivial ?_
 refine ZS trivial (w_dd _ hrZ2) ?_
 refine ZG ?_
 obtain ⟨cZ3, h⟩ | ⟨cZ3, h⟩ := cond_s h
 · obtain ⟨rZ4, hrZ4, h⟩ := bind_s h
   refine ZF cZ3 ?_
   refine ZU cZ3 (w_ce _ _ hrZ4) ?_
   refine ZG ?_
   cases h
   exact ZL cZ3 V205.eq_1
 · cases h
   exact ZL cZ3 V205.eq_1
theorem w_bx (aZ0 : TRoute) (xZ0 : TBlock) (bZ0 : TRoute) (yZ0 : TBlock) {r : Bool} (h : M_bx aZ0 xZ0 bZ0 yZ0 = some r) : Ok Tryz.prog 142 [.agg [.i aZ0.Start, .lst .o 1 (aZ0.Fibers.map AV.i)], .agg [.i xZ0.First, .i xZ0.Count], .agg [.i bZ0.Start, .lst .o 1 (bZ0.Fibers.map AV.i)], .agg [.i yZ0.First, .i yZ0.Count]] ((fun r => .b r) r) := by
 refine ok_of_body hmix m142 rfl ?_
 unfold M_bx at h
 simp only [ZC, A142, V142, body_eq]
 obtain ⟨rZ1, hrZ1, h⟩ := bind_s h
 refine ZF trivial ?_
 refine ZS trivial (w_gd _ _ hrZ1) ?_
 refine ZG ?_
 cases h
 exact ZL trivial V142.eq_1
theorem w_fd (nZ0 : TNetwork) (aZ0 : TService) (bZ0 : TService) {r : Bool} (h : M_fd nZ0 aZ0 bZ0 = some r) : Ok Tryz.prog 97 [.agg [.lst .o 1 (nZ0.Nodes.map AV.z), .lst .o 4 (nZ0.Fibers.map (e_TFiber .o))], .agg [.i aZ0.Id, .i aZ0.Class, .i aZ0.Work.Start, .lst .o 1 (aZ0.Work.Fibers.map AV.i), .i aZ0.WorkBlock.First, .i aZ0.WorkBlock.Count, .i aZ0.Spare.Start, .lst .o 1 (aZ0.Spare.Fibers.map AV.i), .i aZ0.SpareBlock.First, .i aZ0.SpareBlock.Count], .agg [.i bZ0.Id, .i bZ0.Class, .i bZ0.Work.Start, .lst .o 1 (bZ0.Work.Fibers.map AV.i), .i bZ0.WorkBlock.First, .i bZ0.WorkBlock.Count, .i bZ0.Spare.Start, .lst .o 1 (bZ0.Spare.Fibers.map AV.i), .i bZ0.SpareBlock.First, .i bZ0.SpareBlock.Count]] ((fun r => .b r) r) := by
 refine ok_of_body hmix m97 rfl ?_
 unfold M_fd at h
 simp only [ZC, A97, V97, body_eq]
 obtain ⟨oZ6, hoZ6, h⟩ := bind_s h
 try refine ZF trivial ?_
 refine join_rule0 (sh := (fun v => ⟨[(3, .pt 3 0 0), (4, .pt 4 0 0), (5, .pt 5 0 0), (38, .b v)], [(3, .var (.agg [.lst .o 1 (nZ0.Nodes.map AV.z), .lst .o 4 (nZ0.Fibers.map (e_TFiber .o))])), (4, .var (.agg [.i aZ0.Id, .i aZ0.Class, .i aZ0.Work.Start, .lst .o 1 (aZ0.Work.Fibers.map AV.i), .i aZ0.WorkBlock.First, .i aZ0.WorkBlock.Count, .i aZ0.Spare.Start, .lst .o 1 (aZ0.Spare.Fibers.map AV.i), .i aZ0.SpareBlock.First, .i aZ0.SpareBlock.Count])), (5, .var (.agg [.i bZ0.Id, .i bZ0.Class, .i bZ0.Work.Start, .lst .o 1 (bZ0.Work.Fibers.map AV.i), .i bZ0.WorkBlock.First, .i bZ0.WorkBlock.Count, .i bZ0.Spare.Start, .lst .o 1 (bZ0.Spare.Fibers.map AV.i), .i bZ0.SpareBlock.First, .i bZ0.SpareBlock.Count]))]⟩)) (s := oZ6) ?_ ?_
 · replace h := hoZ6
   obtain ⟨rZ1, hrZ1, h⟩ := bind_s h
   refine ZF trivial ?_
   refine ZS trivial (w_bx _ _ _ _ hrZ1) ?_
   refine ZG ?_
   obtain ⟨cZ2, h⟩ | ⟨cZ2, h⟩ := cond_s h
   · cases h
     exact ZL cZ2 trivial
   · obtain ⟨rZ3, hrZ3, h⟩ := bind_s h
     refine ZF cZ2 ?_
     refine ZS cZ2 (w_bx _ _ _ _ hrZ3) ?_
     refine ZG ?_
     obtain ⟨cZ4, h⟩ | ⟨cZ4, h⟩ := cond_s h
     · cases h
       exact ZL (ZA cZ2 cZ4) trivial
     · obtain ⟨rZ5, hrZ5, h⟩ := bind_s h
       refine ZF (ZA cZ2 cZ4) ?_
       refine ZS (ZA cZ2 cZ4) (w_bx _ _ _ _ hrZ5) ?_
       refine ZG ?_
       cases h
       exact ZL (ZA cZ2 cZ4) trivial
 · simp only [ZC, A97R1]
   obtain ⟨cZ7, h⟩ | ⟨cZ7, h⟩ := cond_s h
   · cases h
     exact ZL cZ7 V97.eq_1
   · obtain ⟨oZ11, hoZ11, h⟩ := bind_s h
     try refine ZF cZ7 ?_
     refine join_rule0 (sh := (fun v => ⟨[(4, .pt 4 0 0), (5, .pt 5 0 0), (7, .b v)], [(4, .var (.agg [.i aZ0.Id, .i aZ0.Class, .i aZ0.Work.Start, .lst .o 1 (aZ0.Work.Fibers.map AV.i), .i aZ0.WorkBlock.First, .i aZ0.WorkBlock.Count, .i aZ0.Spare.Start, .lst .o 1 (aZ0.Spare.Fibers.map AV.i), .i aZ0.SpareBlock.First, .i aZ0.SpareBlock.Count])), (5, .var (.agg [.i bZ0.Id, .i bZ0.Class, .i bZ0.Work.Start, .lst .o 1 (bZ0.Work.Fibers.map AV.i), .i bZ0.WorkBlock.First, .i bZ0.WorkBlock.Count, .i bZ0.Spare.Start, .lst .o 1 (bZ0.Spare.Fibers.map AV.i), .i bZ0.SpareBlock.First, .i bZ0.SpareBlock.Count]))]⟩)) (s := oZ11) ?_ ?_
     · replace h := hoZ11
       obtain ⟨cZ8, h⟩ | ⟨cZ8, h⟩ := cond_s h
       · obtain ⟨cZ9, h⟩ | ⟨cZ9, h⟩ := cond_s h
         · obtain ⟨rZ10, hrZ10, h⟩ := bind_s h
           refine ZF (ZA cZ7 (ZA cZ8 cZ9)) ?_
           refine ZS (ZA cZ7 (ZA cZ8 cZ9)) (w_dc _ _ _ hrZ10) ?_
           refine ZG ?_
           cases h
           exact ZL (ZA cZ7 (ZA cZ8 cZ9)) trivial
         · cases h
           exact ZL (ZA cZ7 (ZA cZ8 cZ9)) trivial
       · cases h
         exact ZL (ZA cZ7 cZ8) trivial
     · simp only [ZC, A97R2]
       obtain ⟨cZ12, h⟩ | ⟨cZ12, h⟩ := cond_s h
       · cases h
         exact ZL (ZA cZ7 cZ12) V97.eq_1
       · obtain ⟨rZ13, hrZ13, h⟩ := bind_s h
         refine ZF (ZA cZ7 cZ12) ?_
         refine ZS (ZA cZ7 cZ12) (w_bx _ _ _ _ hrZ13) ?_
         refine ZG ?_
         cases h
         exact ZL (ZA cZ7 cZ12) V97.eq_1
theorem w_de (ownZ0 : TService) (p1Z0 : TNetwork) (p2Z0 : TService) {r : Bool} (h : M_de ownZ0 p1Z0 p2Z0 = some r) : Ok Tryz.prog 96 [.agg [.i ownZ0.Id, .i ownZ0.Class, .i ownZ0.Work.Start, .lst .o 1 (ownZ0.Work.Fibers.map AV.i), .i ownZ0.WorkBlock.First, .i ownZ0.WorkBlock.Count, .i ownZ0.Spare.Start, .lst .o 1 (ownZ0.Spare.Fibers.map AV.i), .i ownZ0.SpareBlock.First, .i ownZ0.SpareBlock.Count], .bp (.agg [.lst .o 1 (p1Z0.Nodes.map AV.z), .lst .o 4 (p1Z0.Fibers.map (e_TFiber .o))]) 0, .bp (.agg [.i p2Z0.Id, .i p2Z0.Class, .i p2Z0.Work.Start, .lst .o 1 (p2Z0.Work.Fibers.map AV.i), .i p2Z0.WorkBlock.First, .i p2Z0.WorkBlock.Count, .i p2Z0.Spare.Start, .lst .o 1 (p2Z0.Spare.Fibers.map AV.i), .i p2Z0.SpareBlock.First, .i p2Z0.SpareBlock.Count]) 0] ((fun r => .b r) r) := by
 refine ok_of_body hmix m96 rfl ?_
 unfold M_de at h
 simp only [ZC, A96, V96, body_eq]
 obtain ⟨rZ1, hrZ1, h⟩ := bind_s h
 refine ZF trivial ?_
 refine ZS trivial (w_fd _ _ _ hrZ1) ?_
 refine ZG ?_
 cases h
 exact ZL trivial V96.eq_1
def S_be (sZ0 : List TService) (F_fZ0 : Nat) (C_fZ0 : List AV) (v : Int) : St := ⟨[(0, .lst .o 10 (sZ0.map (e_TService .o))), (1, .fn F_fZ0 C_fZ0), (7, .i (sZ0.length : Int)), (8, .i v)], []⟩
def SX_be (v : Unit) : St := ⟨[], []⟩
theorem w_be (sZ0 : List TService) (fZ0 : TService → Option Bool) (F_fZ0 : Nat) (C_fZ0 : List AV) (hC_fZ0 : Fixed C_fZ0) (hf_fZ0 : ∀ (x0 : TService) (r : Bool), fZ0 x0 = some r → Ok Tryz.prog F_fZ0 ((.agg [.i x0.Id, .i x0.Class, .i x0.Work.Start, .lst .o 1 (x0.Work.Fibers.map AV.i), .i x0.WorkBlock.First, .i x0.WorkBlock.Count, .i x0.Spare.Start, .lst .o 1 (x0.Spare.Fibers.map AV.i), .i x0.SpareBlock.First, .i x0.SpareBlock.Count]) :: C_fZ0) (.b r)) (sZ1 : Int) (o : Int ⊕ (Unit ⊕ Int)) (h : M_be sZ0 fZ0 sZ1 = some o) : AWP (OkS Tryz.prog) A98L1 (qL [0, 1, 7, 8] [] (S_be sZ0 F_fZ0 C_fZ0) (qS (qX 0 [] [] (SX_be)) (qR V98 (fun r => .i r))) o) (S_be sZ0 F_fZ0 C_fZ0 sZ1) := by
 unfold M_be at h
 simp only [ZC, S_be, A98L1]
 obtain ⟨cZ2, h⟩ | ⟨cZ2, h⟩ := cond_s h
 · obtain ⟨yZ3, hyZ3, h⟩ := bind_s h
   obtain ⟨hyZ3a, hyZ3b⟩ := geti_s hyZ3
   obtain ⟨rZ4, hrZ4, h⟩ := bind_s h
   refine ZF (ZA cZ2 (ZA hyZ3a hyZ3b)) ?_
   refine ZS (ZA cZ2 (ZA hyZ3a (ZA hyZ3b hC_fZ0.1))) (hf_fZ0 _ _ hrZ4) ?_
   refine ZG ?_
   obtain ⟨cZ5, h⟩ | ⟨cZ5, h⟩ := cond_s h
   · cases h
     exact ZL (ZA cZ2 (ZA hyZ3a (ZA hyZ3b cZ5))) (ZA V98.eq_1 (ZA hC_fZ0.2 ((fixed_ren hC_fZ0))))
   · cases h
     exact ZL (ZA cZ2 (ZA hyZ3a (ZA hyZ3b cZ5))) (ZA S_be.eq_1 (ZA SX_be.eq_1 (ZA hC_fZ0.2 ((fixed_ren hC_fZ0)))))
 · cases h
   exact ZL cZ2 (ZA S_be.eq_1 (ZA SX_be.eq_1 (ZA hC_fZ0.2 ((fixed_ren hC_fZ0)))))
theorem w_ge (sZ0 : List TService) (fZ0 : TService → Option Bool) {r : Int} (h : M_ge sZ0 fZ0 = some r) (F_fZ0 : Nat) (C_fZ0 : List AV) (hC_fZ0 : Fixed C_fZ0) (hf_fZ0 : ∀ (x0 : TService) (r : Bool), fZ0 x0 = some r → Ok Tryz.prog F_fZ0 ((.agg [.i x0.Id, .i x0.Class, .i x0.Work.Start, .lst .o 1 (x0.Work.Fibers.map AV.i), .i x0.WorkBlock.First, .i x0.WorkBlock.Count, .i x0.Spare.Start, .lst .o 1 (x0.Spare.Fibers.map AV.i), .i x0.SpareBlock.First, .i x0.SpareBlock.Count]) :: C_fZ0) (.b r)) : Ok Tryz.prog 98 [.lst .o 10 (sZ0.map (e_TService .o)), .fn F_fZ0 C_fZ0] ((fun r => .i r) r) := by
 refine ok_of_body hmix m98 rfl ?_
 unfold M_ge at h
 simp only [ZC, A98, V98, body_eq]
 obtain ⟨oZ6, hoZ6, h⟩ := bind_s h
 try refine ZF trivial ?_
 refine join_rule (o := oZ6) (blk_rule sideR (loop_rule (w_be sZ0 fZ0 F_fZ0 C_fZ0 hC_fZ0 hf_fZ0) hoZ6 ?_)) (fun vZ7 hv => ?_) (fun xZ8 hv e τ hne hq => ?_)
 · exact ZK (ZA S_be.eq_1 (ZA SX_be.eq_1 (ZA hC_fZ0.2 ((fixed_ren hC_fZ0)))))
 · subst hv
   simp only [] at h
   simp only [ZC, SX_be, A98R2]
   cases h
   exact ZL trivial (ZA V98.eq_1 (ZA hC_fZ0.2 ((fixed_ren hC_fZ0))))
 · subst hv
   simp only [] at h
   obtain ⟨rfl, qZ9⟩ := hq
   cases h
   exact qZ9
theorem w_cf (sZ0 : List TService) (fZ0 : TService → Option Bool) {r : Bool} (h : M_cf sZ0 fZ0 = some r) (F_fZ0 : Nat) (C_fZ0 : List AV) (hC_fZ0 : Fixed C_fZ0) (hf_fZ0 : ∀ (x0 : TService) (r : Bool), fZ0 x0 = some r → Ok Tryz.prog F_fZ0 ((.agg [.i x0.Id, .i x0.Class, .i x0.Work.Start, .lst .o 1 (x0.Work.Fibers.map AV.i), .i x0.WorkBlock.First, .i x0.WorkBlock.Count, .i x0.Spare.Start, .lst .o 1 (x0.Spare.Fibers.map AV.i), .i x0.SpareBlock.First, .i x0.SpareBlock.Count]) :: C_fZ0) (.b r)) : Ok Tryz.prog 95 [.lst .o 10 (sZ0.map (e_TService .o)), .fn F_fZ0 C_fZ0] ((fun r => .b r) r) := by
 refine ok_of_body hmix m95 rfl ?_
 unfold M_cf at h
 simp only [ZC, A95, V95, body_eq]
 obtain ⟨rZ1, hrZ1, h⟩ := bind_s h
 refine ZF trivial ?_
 refine ZS hC_fZ0.1 (w_ge _ _ hrZ1 F_fZ0 C_fZ0 hC_fZ0 hf_fZ0) ?_
 refine ZG ?_
 cases h
 exact ZL trivial (ZA V95.eq_1 (ZA hC_fZ0.2 ((fixed_ren hC_fZ0))))
def S_w (nZ0 : TNetwork) (listZ0 : List TService) (v : Int) : St := ⟨[(1, .lst .o 10 (listZ0.map (e_TService .o))), (2, .pt 2 0 0), (15, .lst .o 10 (listZ0.map (e_TService .o))), (16, .i (listZ0.length : Int)), (17, .i v)], [(2, .var (.agg [.lst .o 1 (nZ0.Nodes.map AV.z), .lst .o 4 (nZ0.Fibers.map (e_TFiber .o))]))]⟩
def SX_w (v : Unit) : St := ⟨[], []⟩
theorem w_w (nZ0 : TNetwork) (listZ0 : List TService) (sZ5 : Int) (o : Int ⊕ (Unit ⊕ Bool)) (h : M_w nZ0 listZ0 sZ5 = some o) : AWP (OkS Tryz.prog) A24L2 (qL [1, 2, 15, 16, 17] [2] (S_w nZ0 listZ0) (qS (qX 0 [] [] (SX_w)) (qR V24 (fun r => .b r))) o) (S_w nZ0 listZ0 sZ5) := by
 unfold M_w at h
 simp only [ZC, S_w, A24L2]
 obtain ⟨cZ6, h⟩ | ⟨cZ6, h⟩ := cond_s h
 · obtain ⟨yZ7, hyZ7, h⟩ := bind_s h
   obtain ⟨hyZ7a, hyZ7b⟩ := geti_s hyZ7
   obtain ⟨rZ8, hrZ8, h⟩ := bind_s h
   refine ZF (ZA cZ6 (ZA hyZ7a hyZ7b)) ?_
   refine ZS (ZA cZ6 (ZA hyZ7a hyZ7b)) (w_fc _ _ hrZ8) ?_
   refine ZG ?_
   obtain ⟨cZ9, h⟩ | ⟨cZ9, h⟩ := cond_s h
   · cases h
     exact ZL (ZA cZ6 (ZA hyZ7a (ZA hyZ7b cZ9))) V24.eq_1
   · obtain ⟨cZ10, h⟩ | ⟨cZ10, h⟩ := cond_s h
     · obtain ⟨yZ11, hyZ11, h⟩ := bind_s h
       obtain ⟨hyZ11a, hyZ11b⟩ := geti_s hyZ11
       obtain ⟨cZ12, h⟩ | ⟨cZ12, h⟩ := cond_s h
       · cases h
         exact ZL (ZA cZ6 (ZA hyZ7a (ZA hyZ7b (ZA cZ9 (ZA cZ10 (ZA hyZ11a (ZA hyZ11b cZ12))))))) V24.eq_1
       · obtain ⟨lZ13, hlZ13, h⟩ := bind_s h
         obtain ⟨hlZ13a, hlZ13b, hlZ13c, hlZ13d, hlZ13e⟩ := slT_s (e_TService .o) hlZ13
         obtain ⟨rZ14, hrZ14, h⟩ := bind_s h
         refine ZF (ZA cZ6 (ZA hyZ7a (ZA hyZ7b (ZA cZ9 (ZA cZ10 (ZA hyZ11a (ZA hyZ11b (ZA cZ12 (ZA hlZ13a (ZA hlZ13b (ZA hlZ13c (ZA hlZ13d hlZ13e)))))))))))) ?_
         refine ZS (ZA cZ6 (ZA hyZ7a (ZA hyZ7b (ZA cZ9 (ZA cZ10 (ZA hyZ11a (ZA hyZ11b (ZA cZ12 (ZA hlZ13a (ZA hlZ13b (ZA hlZ13c (ZA hlZ13d hlZ13e)))))))))))) (w_cf _ _ hrZ14 96 [.bp (.agg [.lst .o 1 (nZ0.Nodes.map AV.z), .lst .o 4 (nZ0.Fibers.map (e_TFiber .o))]) 0, .bp (.agg [.i yZ7.Id, .i yZ7.Class, .i yZ7.Work.Start, .lst .o 1 (yZ7.Work.Fibers.map AV.i), .i yZ7.WorkBlock.First, .i yZ7.WorkBlock.Count, .i yZ7.Spare.Start, .lst .o 1 (yZ7.Spare.Fibers.map AV.i), .i yZ7.SpareBlock.First, .i yZ7.SpareBlock.Count]) 0] ⟨fun ρ k => by simp only [VS1, VS2, VS3, VS4, VS5, VS6, VT1, VT2, finM_ret, finM_nrm, decide_true, decide_false, List.nodup_nil, List.nodup_cons, oks_p, oks_m, oks_h, ne_eq, not_false_eq_true, Int.reduceEq, Int.reduceNe, true_and, false_and, Nat.reduceSub, Nat.reduceMul, ↓reduceIte, reduceCtorEq, Nat.reduceEqDiff, Nat.reduceAdd, Nat.reduceLeDiff, Int.reduceLE], by simp [mentsL, AV.ments]⟩ (fun _ _ h => w_de _ _ _ h)) ?_
         refine ZG ?_
         obtain ⟨cZ15, h⟩ | ⟨cZ15, h⟩ := cond_s h
         · cases h
           exact ZL (ZA cZ6 (ZA hyZ7a (ZA hyZ7b (ZA cZ9 (ZA cZ10 (ZA hyZ11a (ZA hyZ11b (ZA cZ12 (ZA hlZ13a (ZA hlZ13b (ZA hlZ13c (ZA hlZ13d (ZA hlZ13e cZ15))))))))))))) V24.eq_1
         · cases h
           exact ZL (ZA cZ6 (ZA hyZ7a (ZA hyZ7b (ZA cZ9 (ZA cZ10 (ZA hyZ11a (ZA hyZ11b (ZA cZ12 (ZA hlZ13a (ZA hlZ13b (ZA hlZ13c (ZA hlZ13d (ZA hlZ13e cZ15))))))))))))) (ZA S_w.eq_1 SX_w.eq_1)
     · obtain ⟨lZ16, hlZ16, h⟩ := bind_s h
       obtain ⟨hlZ16a, hlZ16b, hlZ16c, hlZ16d, hlZ16e⟩ := slT_s (e_TService .o) hlZ16
       obtain ⟨rZ17, hrZ17, h⟩ := bind_s h
       refine ZF (ZA cZ6 (ZA hyZ7a (ZA hyZ7b (ZA cZ9 (ZA cZ10 (ZA hlZ16a (ZA hlZ16b (ZA hlZ16c (ZA hlZ16d hlZ16e))))))))) ?_
       refine ZS (ZA cZ6 (ZA hyZ7a (ZA hyZ7b (ZA cZ9 (ZA cZ10 (ZA hlZ16a (ZA hlZ16b (ZA hlZ16c (ZA hlZ16d hlZ16e))))))))) (w_cf _ _ hrZ17 96 [.bp (.agg [.lst .o 1 (nZ0.Nodes.map AV.z), .lst .o 4 (nZ0.Fibers.map (e_TFiber .o))]) 0, .bp (.agg [.i yZ7.Id, .i yZ7.Class, .i yZ7.Work.Start, .lst .o 1 (yZ7.Work.Fibers.map AV.i), .i yZ7.WorkBlock.First, .i yZ7.WorkBlock.Count, .i yZ7.Spare.Start, .lst .o 1 (yZ7.Spare.Fibers.map AV.i), .i yZ7.SpareBlock.First, .i yZ7.SpareBlock.Count]) 0] ⟨fun ρ k => by simp only [VS1, VS2, VS3, VS4, VS5, VS6, VT1, VT2, finM_ret, finM_nrm, decide_true, decide_false, List.nodup_nil, List.nodup_cons, oks_p, oks_m, oks_h, ne_eq, not_false_eq_true, Int.reduceEq, Int.reduceNe, true_and, false_and, Nat.reduceSub, Nat.reduceMul, ↓reduceIte, reduceCtorEq, Nat.reduceEqDiff, Nat.reduceAdd, Nat.reduceLeDiff, Int.reduceLE], by simp [mentsL, AV.ments]⟩ (fun _ _ h => w_de _ _ _ h)) ?_
       refine ZG ?_
       obtain ⟨cZ18, h⟩ | ⟨cZ18, h⟩ := cond_s h
       · cases h
         exact ZL (ZA cZ6 (ZA hyZ7a (ZA hyZ7b (ZA cZ9 (ZA cZ10 (ZA hlZ16a (ZA hlZ16b (ZA hlZ16c (ZA hlZ16d (ZA hlZ16e cZ18)))))))))) V24.eq_1
       · cases h
         exact ZL (ZA cZ6 (ZA hyZ7a (ZA hyZ7b (ZA cZ9 (ZA cZ10 (ZA hlZ16a (ZA hlZ16b (ZA hlZ16c (ZA hlZ16d (ZA hlZ16e cZ18)))))))))) (ZA S_w.eq_1 SX_w.eq_1)
 · cases h
   exact ZL cZ6 (ZA S_w.eq_1 SX_w.eq_1)
theorem w_fe (nZ0 : TNetwork) (listZ0 : List TService) {r : Bool} (h : M_fe nZ0 listZ0 = some r) : Ok Tryz.prog 24 [.agg [.lst .o 1 (nZ0.Nodes.map AV.z), .lst .o 4 (nZ0.Fibers.map (e_TFiber .o))], .lst .o 10 (listZ0.map (e_TService .o))] ((fun r => .b r) r) := by
 refine ok_of_body hmix m24 rfl ?_
 unfold M_fe at h
 simp only [ZC, A24, V24, body_eq]
 obtain ⟨oZ3, hoZ3, h⟩ := bind_s h
 try refine ZF trivial ?_
 refine join_rule0 (sh := (fun v => ⟨[(1, .lst .o 10 (listZ0.map (e_TService .o))), (2, .pt 2 0 0), (14, .b v)], [(2, .var (.agg [.lst .o 1 (nZ0.Nodes.map AV.z), .lst .o 4 (nZ0.Fibers.map (e_TFiber .o))]))]⟩)) (s := oZ3) ?_ ?_
 · replace h := hoZ3
   obtain ⟨rZ1, hrZ1, h⟩ := bind_s h
   refine ZF trivial ?_
   refine ZS trivial (w_es _ hrZ1) ?_
   refine ZG ?_
   obtain ⟨cZ2, h⟩ | ⟨cZ2, h⟩ := cond_s h
   · cases h
     exact ZL cZ2 trivial
   · cases h
     exact ZL cZ2 trivial
 · simp only [ZC, A24R1]
   obtain ⟨cZ4, h⟩ | ⟨cZ4, h⟩ := cond_s h
   · cases h
     exact ZL cZ4 V24.eq_1
   · obtain ⟨oZ19, hoZ19, h⟩ := bind_s h
     try refine ZF cZ4 ?_
     refine join_rule (o := oZ19) (blk_rule sideR (loop_rule (w_w nZ0 listZ0) hoZ19 ?_)) (fun vZ20 hv => ?_) (fun xZ21 hv e τ hne hq => ?_)
     · exact ZK (ZA S_w.eq_1 SX_w.eq_1)
     · subst hv
       simp only [] at h
       simp only [ZC, SX_w, A24R3]
       cases h
       exact ZL cZ4 V24.eq_1
     · subst hv
       simp only [] at h
       obtain ⟨rfl, qZ22⟩ := hq
       cases h
       exact qZ22
def S_x (lZ0 : List Int) (nZ0 : Int) (v : Int) : St := ⟨[(0, .lst .o 1 (lZ0.map AV.i)), (1, .i nZ0), (7, .lst .o 1 (lZ0.map AV.i)), (8, .i (lZ0.length : Int)), (9, .i v)], []⟩
def SX_x (v : Unit) : St := ⟨[], []⟩
theorem w_x (lZ0 : List Int) (nZ0 : Int) (sZ1 : Int) (o : Int ⊕ (Unit ⊕ Bool)) (h : M_x lZ0 nZ0 sZ1 = some o) : AWP (OkS Tryz.prog) A138L1 (qL [0, 1, 7, 8, 9] [] (S_x lZ0 nZ0) (qS (qX 0 [] [] (SX_x)) (qR V138 (fun r => .b r))) o) (S_x lZ0 nZ0 sZ1) := by
 unfold M_x at h
 simp only [ZC, S_x, A138L1]
 obtain ⟨cZ2, h⟩ | ⟨cZ2, h⟩ := cond_s h
 · obtain ⟨yZ3, hyZ3, h⟩ := bind_s h
   obtain ⟨hyZ3a, hyZ3b⟩ := geti_s hyZ3
   obtain ⟨rZ4, hrZ4, h⟩ := bind_s h
   refine ZF (ZA cZ2 (ZA hyZ3a hyZ3b)) ?_
   refine ZS (ZA cZ2 (ZA hyZ3a hyZ3b)) (w_c _ _ _ hrZ4) ?_
   refine ZG ?_
   obtain ⟨cZ5, h⟩ | ⟨cZ5, h⟩ := cond_s h
   · cases h
     exact ZL (ZA cZ2 (ZA hyZ3a (ZA hyZ3b cZ5))) V138.eq_1
   · obtain ⟨cZ6, h⟩ | ⟨cZ6, h⟩ := cond_s h
     · obtain ⟨yZ7, hyZ7, h⟩ := bind_s h
       obtain ⟨hyZ7a, hyZ7b⟩ := geti_s hyZ7
       obtain ⟨cZ8, h⟩ | ⟨cZ8, h⟩ := cond_s h
       · cases h
         exact ZL (ZA cZ2 (ZA hyZ3a (ZA hyZ3b (ZA cZ5 (ZA cZ6 (ZA hyZ7a (ZA hyZ7b cZ8))))))) V138.eq_1
       · cases h
         exact ZL (ZA cZ2 (ZA hyZ3a (ZA hyZ3b (ZA cZ5 (ZA cZ6 (ZA hyZ7a (ZA hyZ7b cZ8))))))) (ZA S_x.eq_1 SX_x.eq_1)
     · cases h
       exact ZL (ZA cZ2 (ZA hyZ3a (ZA hyZ3b (ZA cZ5 cZ6)))) (ZA S_x.eq_1 SX_x.eq_1)
 · cases h
   exact ZL cZ2 (ZA S_x.eq_1 SX_x.eq_1)
theorem w_ff (lZ0 : List Int) (nZ0 : Int) {r : Bool} (h : M_ff lZ0 nZ0 = some r) : Ok Tryz.prog 138 [.lst .o 1 (lZ0.map AV.i), .i nZ0] ((fun r => .b r) r) := by
 refine ok_of_body hmix m138 rfl ?_
 unfold M_ff at h
 simp only [ZC, A138, V138, body_eq]
 obtain ⟨oZ9, hoZ9, h⟩ := bind_s h
 try refine ZF trivial ?_
 refine join_rule (o := oZ9) (blk_rule sideR (loop_rule (w_x lZ0 nZ0) hoZ9 ?_)) (fun vZ10 hv => ?_) (fun xZ11 hv e τ hne hq => ?_)
 · exact ZK (ZA S_x.eq_1 SX_x.eq_1)
 · subst hv
   simp only [] at h
   simp only [ZC, SX_x, A138R2]
   cases h
   exact ZL trivial V138.eq_1
 · subst hv
   simp only [] at h
   obtain ⟨rfl, qZ12⟩ := hq
   cases h
   exact qZ12
theorem w_fg (nZ0 : TNetwork) (listZ0 : List TService) (failedZ0 : List Int) {r : Bool} (h : M_fg nZ0 listZ0 failedZ0 = some r) : Ok Tryz.prog 65 [.agg [.lst .o 1 (nZ0.Nodes.map AV.z), .lst .o 4 (nZ0.Fibers.map (e_TFiber .o))], .lst .o 10 (listZ0.map (e_TService .o)), .lst .o 1 (failedZ0.map AV.i)] ((fun r => .b r) r) := by
 refine ok_of_body hmix m65 rfl ?_
 unfold M_fg at h
 simp only [ZC, A65, V65, body_eq]
 obtain ⟨rZ1, hrZ1, h⟩ := bind_s h
 refine ZF trivial ?_
 refine ZS trivial (w_fe _ _ hrZ1) ?_
 refine ZG ?_
 obtain ⟨cZ2, h⟩ | ⟨cZ2, h⟩ := cond_s h
 · obtain ⟨rZ3, hrZ3, h⟩ := bind_s h
   refine ZF cZ2 ?_
   refine ZU cZ2 (w_cl _ hrZ3) ?_
   refine ZG ?_
   obtain ⟨rZ4, hrZ4, h⟩ := bind_s h
   refine ZF cZ2 ?_
   refine ZS cZ2 (w_ff _ _ hrZ4) ?_
   refine ZG ?_
   cases h
   exact ZL cZ2 V65.eq_1
 · cases h
   exact ZL cZ2 V65.eq_1
def S_bf (sZ0 : List Int) (F_fZ0 : Nat) (C_fZ0 : List AV) (v : Int) : St := ⟨[(0, .lst .o 1 (sZ0.map AV.i)), (1, .fn F_fZ0 C_fZ0), (7, .i (sZ0.length : Int)), (8, .i v)], []⟩
def SX_bf (v : Unit) : St := ⟨[], []⟩
theorem w_bf (sZ0 : List Int) (fZ0 : Int → Option Bool) (F_fZ0 : Nat) (C_fZ0 : List AV) (hC_fZ0 : Fixed C_fZ0) (hf_fZ0 : ∀ (x0 : Int) (r : Bool), fZ0 x0 = some r → Ok Tryz.prog F_fZ0 ((.i x0) :: C_fZ0) (.b r)) (sZ1 : Int) (o : Int ⊕ (Unit ⊕ Int)) (h : M_bf sZ0 fZ0 sZ1 = some o) : AWP (OkS Tryz.prog) A217L1 (qL [0, 1, 7, 8] [] (S_bf sZ0 F_fZ0 C_fZ0) (qS (qX 0 [] [] (SX_bf)) (qR V217 (fun r => .i r))) o) (S_bf sZ0 F_fZ0 C_fZ0 sZ1) := by
 unfold M_bf at h
 simp only [ZC, S_bf, A217L1]
 obtain ⟨cZ2, h⟩ | ⟨cZ2, h⟩ := cond_s h
 · obtain ⟨yZ3, hyZ3, h⟩ := bind_s h
   obtain ⟨hyZ3a, hyZ3b⟩ := geti_s hyZ3
   obtain ⟨rZ4, hrZ4, h⟩ := bind_s h
   refine ZF (ZA cZ2 (ZA hyZ3a hyZ3b)) ?_
   refine ZS (ZA cZ2 (ZA hyZ3a (ZA hyZ3b hC_fZ0.1))) (hf_fZ0 _ _ hrZ4) ?_
   refine ZG ?_
   obtain ⟨cZ5, h⟩ | ⟨cZ5, h⟩ := cond_s h
   · cases h
     exact ZL (ZA cZ2 (ZA hyZ3a (ZA hyZ3b cZ5))) (ZA V217.eq_1 (ZA hC_fZ0.2 ((fixed_ren hC_fZ0))))
   · cases h
     exact ZL (ZA cZ2 (ZA hyZ3a (ZA hyZ3b cZ5))) (ZA S_bf.eq_1 (ZA SX_bf.eq_1 (ZA hC_fZ0.2 ((fixed_ren hC_fZ0)))))
 · cases h
   exact ZL cZ2 (ZA S_bf.eq_1 (ZA SX_bf.eq_1 (ZA hC_fZ0.2 ((fixed_ren hC_fZ0)))))
theorem w_gf (sZ0 : List Int) (fZ0 : Int → Option Bool) {r : Int} (h : M_gf sZ0 fZ0 = some r) (F_fZ0 : Nat) (C_fZ0 : List AV) (hC_fZ0 : Fixed C_fZ0) (hf_fZ0 : ∀ (x0 : Int) (r : Bool), fZ0 x0 = some r → Ok Tryz.prog F_fZ0 ((.i x0) :: C_fZ0) (.b r)) : Ok Tryz.prog 217 [.lst .o 1 (sZ0.map AV.i), .fn F_fZ0 C_fZ0] ((fun r => .i r) r) := by
 refine ok_of_body hmix m217 rfl ?_
 unfold M_gf at h
 simp only [ZC, A217, V217, body_eq]
 obtain ⟨oZ6, hoZ6, h⟩ := bind_s h
 try refine ZF trivial ?_
 refine join_rule (o := oZ6) (blk_rule sideR (loop_rule (w_bf sZ0 fZ0 F_fZ0 C_fZ0 hC_fZ0 hf_fZ0) hoZ6 ?_)) (fun vZ7 hv => ?_) (fun xZ8 hv e τ hne hq => ?_)
 · exact ZK (ZA S_bf.eq_1 (ZA SX_bf.eq_1 (ZA hC_fZ0.2 ((fixed_ren hC_fZ0)))))
 · subst hv
   simp only [] at h
   simp only [ZC, SX_bf, A217R2]
   cases h
   exact ZL trivial (ZA V217.eq_1 (ZA hC_fZ0.2 ((fixed_ren hC_fZ0))))
 · subst hv
   simp only [] at h
   obtain ⟨rfl, qZ9⟩ := hq
   cases h
   exact qZ9
theorem w_fh (sZ0 : List Int) (fZ0 : Int → Option Bool) {r : Bool} (h : M_fh sZ0 fZ0 = some r) (F_fZ0 : Nat) (C_fZ0 : List AV) (hC_fZ0 : Fixed C_fZ0) (hf_fZ0 : ∀ (x0 : Int) (r : Bool), fZ0 x0 = some r → Ok Tryz.prog F_fZ0 ((.i x0) :: C_fZ0) (.b r)) : Ok Tryz.prog 177 [.lst .o 1 (sZ0.map AV.i), .fn F_fZ0 C_fZ0] ((fun r => .b r) r) := by
 refine ok_of_body hmix m177 rfl ?_
 unfold M_fh at h
 simp only [ZC, A177, V177, body_eq]
 obtain ⟨rZ1, hrZ1, h⟩ := bind_s h
 refine ZF trivial ?_
 refine ZS hC_fZ0.1 (w_gf _ _ hrZ1 F_fZ0 C_fZ0 hC_fZ0 hf_fZ0) ?_
 refine ZG ?_
 cases h
 exact ZL trivial (ZA V177.eq_1 (ZA hC_fZ0.2 ((fixed_ren hC_fZ0))))
theorem w_fi (rateZ0 : Int) {r : Bool} (h : M_fi rateZ0 = some r) : Ok Tryz.prog 178 [.i rateZ0] ((fun r => .b r) r) := by
 refine ok_of_body hmix m178 rfl ?_
 unfold M_fi at h
 simp only [ZC, A178, V178, body_eq]
 obtain ⟨rZ1, hrZ1, h⟩ := bind_s h
 refine ZF trivial ?_
 refine ZS trivial (w_c _ _ _ hrZ1) ?_
 refine ZG ?_
 cases h
 exact ZL trivial V178.eq_1
theorem w_fj (listZ0 : List TService) (ratesZ0 : List Int) {r : Bool} (h : M_fj listZ0 ratesZ0 = some r) : Ok Tryz.prog 113 [.lst .o 10 (listZ0.map (e_TService .o)), .lst .o 1 (ratesZ0.map AV.i)] ((fun r => .b r) r) := by
 refine ok_of_body hmix m113 rfl ?_
 unfold M_fj at h
 simp only [ZC, A113, V113, body_eq]
 obtain ⟨cZ1, h⟩ | ⟨cZ1, h⟩ := cond_s h
 · obtain ⟨rZ2, hrZ2, h⟩ := bind_s h
   refine ZF cZ1 ?_
   refine ZS cZ1 (w_fh _ _ hrZ2 178 [] ⟨fun ρ k => by simp only [VS1, VS2, VS3, VS4, VS5, VS6, VT1, VT2, finM_ret, finM_nrm, decide_true, decide_false, List.nodup_nil, List.nodup_cons, oks_p, oks_m, oks_h, ne_eq, not_false_eq_true, Int.reduceEq, Int.reduceNe, true_and, false_and, Nat.reduceSub, Nat.reduceMul, ↓reduceIte, reduceCtorEq, Nat.reduceEqDiff, Nat.reduceAdd, Nat.reduceLeDiff, Int.reduceLE], by simp [mentsL, AV.ments]⟩ (fun _ _ h => w_fi _ h)) ?_
   refine ZG ?_
   cases h
   exact ZL cZ1 V113.eq_1
 · cases h
   exact ZL cZ1 V113.eq_1
theorem w_df (sZ0 : List Int) {r : List Int} (h : M_df sZ0 = some r) : Ok Tryz.prog 80 [.lst .o 1 (sZ0.map AV.i)] ((fun r => .lst .u 1 (r.map AV.i)) r) := by
 refine ok_of_body hmix m80 rfl ?_
 unfold M_df at h
 simp only [ZC, A80, V80, body_eq]
 obtain ⟨cZ1, h⟩ | ⟨cZ1, h⟩ := cond_s h
 · refine ZF cZ1 ?_
   refine And.intro ?_ ?_
   · replace h := amb_l h
     cases h
     exact ZL cZ1 V80.eq_1
   · replace h := amb_r h
     obtain ⟨uZ2, huZ2, h⟩ := bind_s h
     have huZ2g := grd_s huZ2
     cases h
     exact ZL (ZA cZ1 huZ2g) V80.eq_1
 · obtain ⟨uZ3, huZ3, h⟩ := bind_s h
   have huZ3g := grd_s huZ3
   cases h
   exact ZL (ZA cZ1 huZ3g) V80.eq_1
theorem w_fk (aaZ0 : Int) (abZ0 : Int) (acZ0 : List Int) {r : Nat × Nat × List Int} (h : M_fk aaZ0 abZ0 acZ0 = some r) : OkM Tryz.prog 114 [.sl 1000000000 0 acZ0.length, .i aaZ0, .i abZ0] [(1000000000, .arr 1 (acZ0.map AV.i))] ((fun (r : Nat × Nat × List Int) => .sl 1000000000 r.1 r.2.1) r) ((fun (r : Nat × Nat × List Int) => [(1000000000, .arr 1 (r.2.2.map AV.i))]) r) := by
 refine okM_of_body (lr := [1000000000]) hmix m114M1 rfl rfl ?_
 unfold M_fk at h
 simp only [ZC, A114M1, V114M1]
 obtain ⟨uZ1, huZ1, h⟩ := bind_s h
 obtain ⟨huZ1a, huZ1b, huZ1c, huZ1d⟩ := grd_s huZ1
 obtain ⟨cZ2, h⟩ | ⟨cZ2, h⟩ := cond_s h
 · cases h
   exact ZL (ZA huZ1a (ZA huZ1b (ZA huZ1c (ZA huZ1d cZ2)))) V114M1.eq_1
 · obtain ⟨uZ3, huZ3, h⟩ := bind_s h
   obtain ⟨huZ3a, huZ3b, huZ3c, huZ3d⟩ := grd_s huZ3
   have huZ3z := And.intro huZ3c huZ3d
   try simp only [Int.toNat_natCast, Nat.zero_add] at huZ3z
   obtain ⟨uZ4, huZ4, h⟩ := bind_s h
   obtain ⟨huZ4a, huZ4b, huZ4c, huZ4d⟩ := grd_s huZ4
   have huZ4z := And.intro huZ4c huZ4d
   try simp only [Int.toNat_natCast, Nat.zero_add] at huZ4z
   obtain ⟨lZ5, hlZ5, h⟩ := bnd_s h
   have eZ6 : sub (acZ0.map AV.i) (Int.toNat abZ0) (acZ0.length - (Int.toNat abZ0)) = lZ5.map AV.i := by rw [sub_mapT, hlZ5]
   obtain ⟨uZ7, huZ7, h⟩ := bind_s h
   have huZ7g := grd_s huZ7
   have huZ7z := huZ7g
   try rw [Nat.zero_add] at huZ7z
   obtain ⟨lZ8, hlZ8, h⟩ := bnd_s h
   have eZ9 : over (acZ0.map AV.i) (Int.toNat aaZ0) (lZ5.map AV.i) = lZ8.map AV.i := by rw [← hlZ8, ← over_map] <;> simp [List.map_take]
   try simp only [Int.toNat_natCast] at eZ9
   have eZ10 : lZ8.length = acZ0.length := by rw [← hlZ8]; exact over_length _ _ _
   obtain ⟨uZ11, huZ11, h⟩ := bind_s h
   obtain ⟨huZ11a, huZ11b, huZ11c, huZ11d⟩ := grd_s huZ11
   have huZ11z := And.intro huZ11c huZ11d
   try simp only [Int.toNat_natCast, Nat.zero_add] at huZ11z
   have huZ11w := huZ11z
   try simp only [eZ10] at huZ11w
   obtain ⟨lZ12, hlZ12, h⟩ := bnd_s h
   have eZ13 : over (lZ8.map AV.i) (Int.toNat ((((Int.toNat aaZ0) + lZ5.length) : Nat) : Int)) (List.replicate ((Int.toNat (acZ0.length : Int)) - (Int.toNat ((((Int.toNat aaZ0) + lZ5.length) : Nat) : Int))) (.i 0 : AV)) = lZ12.map AV.i := by rw [← hlZ12, ← over_map] <;> simp [List.map_take]
   try simp only [Int.toNat_natCast] at eZ13
   have eZ14 : lZ12.length = lZ8.length := by rw [← hlZ12]; exact over_length _ _ _
   cases h
   exact ZL (ZA huZ1a (ZA huZ1b (ZA huZ1c (ZA huZ1d (ZA cZ2 (ZA huZ3a (ZA huZ3b (ZA huZ3c (ZA huZ3d (ZA huZ3z (ZA huZ4a (ZA huZ4b (ZA huZ4c (ZA huZ4d (ZA huZ4z (ZA eZ6 (ZA huZ7g (ZA huZ7z (ZA eZ9 (ZA huZ11a (ZA huZ11b (ZA huZ11c (ZA huZ11d (ZA huZ11z (ZA huZ11w eZ13))))))))))))))))))))))))) (ZA V114M1.eq_1 (ZA eZ10 eZ14))
def S_bg (failedZ0 : List Int) (rZ1 : List (List Int)) (v : Int × List Int) : St := ⟨[(5, .sl 5 0 v.2.length), (6, .sl 6 0 rZ1.length), (12, .lst .o 1 (failedZ0.map AV.i)), (13, .i (failedZ0.length : Int)), (14, .i v.1)], [(5, .arr 1 (v.2.map AV.i)), (6, .arr 1 (rZ1.map (e_Li .u)))]⟩
def SX_bg (v : List Int) : St := ⟨[(5, .sl 5 0 v.length)], [(5, .arr 1 (v.map AV.i))]⟩
theorem w_bg (failedZ0 : List Int) (rZ1 : List (List Int)) (sZ2 : Int × List Int) (o : (Int × List Int) ⊕ (List Int)) (h : M_bg failedZ0 rZ1 sZ2 = some o) : AWP (OkS Tryz.prog) A66L1 (qL [5, 6, 12, 13, 14] [5, 6] (S_bg failedZ0 rZ1) (qX 0 [5] [5] (SX_bg)) o) (S_bg failedZ0 rZ1 sZ2) := by
 unfold M_bg at h
 simp only [ZC, S_bg, A66L1]
 obtain ⟨cZ3, h⟩ | ⟨cZ3, h⟩ := cond_s h
 · obtain ⟨yZ4, hyZ4, h⟩ := bind_s h
   obtain ⟨hyZ4a, hyZ4b⟩ := geti_s hyZ4
   obtain ⟨kZ5, hkZ5, h⟩ := bind_s h
   obtain ⟨hkZ5a, hkZ5b⟩ := grd_s hkZ5
   obtain ⟨yZ6, hyZ6, h⟩ := bind_s h
   obtain ⟨uZ7, huZ7, h⟩ := bind_s h
   have huZ7g := grd_s huZ7
   obtain ⟨lZ8, hlZ8, h⟩ := bnd_s h
   have eZ9 : sZ2.2.map AV.i ++ yZ6.map AV.i = lZ8.map AV.i := by rw [← hlZ8, List.map_append]
   have eZ10 : sZ2.2.length + yZ6.length = lZ8.length := by simp [← hlZ8] <;> omega
   rw [eZ10] at huZ7g
   cases h
   exact ZL (ZA cZ3 (ZA hyZ4a (ZA hyZ4b (ZA hkZ5a (ZA hkZ5b (ZA hyZ6 (ZA huZ7g (ZA eZ9 eZ10)))))))) (ZA S_bg.eq_1 (ZA SX_bg.eq_1 hlZ8.symm))
 · cases h
   exact ZL cZ3 (ZA S_bg.eq_1 SX_bg.eq_1)
theorem w_fl (nZ0 : TNetwork) (failedZ0 : List Int) {r : List Int} (h : M_fl nZ0 failedZ0 = some r) : Ok Tryz.prog 66 [.agg [.lst .o 1 (nZ0.Nodes.map AV.z), .lst .o 4 (nZ0.Fibers.map (e_TFiber .o))], .lst .o 1 (failedZ0.map AV.i)] ((fun r => .lst .u 1 (r.map AV.i)) r) := by
 refine ok_of_body hmix m66 rfl ?_
 unfold M_fl at h
 simp only [ZC, A66, V66, body_eq]
 obtain ⟨rZ1, hrZ1, h⟩ := bind_s h
 refine ZF trivial ?_
 refine ZU trivial (w_cl _ hrZ1) ?_
 refine ZG ?_
 obtain ⟨oZ11, hoZ11, h⟩ := bind_s h
 try refine ZF trivial ?_
 refine join_rule0 (blk_rule0 (loop_rule (w_bg failedZ0 rZ1) hoZ11 ?_)) ?_
 · exact ZK (ZA S_bg.eq_1 SX_bg.eq_1)
 · simp only [ZC, SX_bg, A66R2]
   cases h
   exact ZL trivial V66.eq_1
theorem w_fm (ownZ0 : TService) (p1Z0 : TService) {r : Bool} (h : M_fm ownZ0 p1Z0 = some r) : Ok Tryz.prog 141 [.agg [.i ownZ0.Id, .i ownZ0.Class, .i ownZ0.Work.Start, .lst .o 1 (ownZ0.Work.Fibers.map AV.i), .i ownZ0.WorkBlock.First, .i ownZ0.WorkBlock.Count, .i ownZ0.Spare.Start, .lst .o 1 (ownZ0.Spare.Fibers.map AV.i), .i ownZ0.SpareBlock.First, .i ownZ0.SpareBlock.Count], .bp (.agg [.i p1Z0.Id, .i p1Z0.Class, .i p1Z0.Work.Start, .lst .o 1 (p1Z0.Work.Fibers.map AV.i), .i p1Z0.WorkBlock.First, .i p1Z0.WorkBlock.Count, .i p1Z0.Spare.Start, .lst .o 1 (p1Z0.Spare.Fibers.map AV.i), .i p1Z0.SpareBlock.First, .i p1Z0.SpareBlock.Count]) 0] ((fun r => .b r) r) := by
 refine ok_of_body hmix m141 rfl ?_
 unfold M_fm at h
 simp only [ZC, A141, V141, body_eq]
 obtain ⟨rZ1, hrZ1, h⟩ := bind_s h
 refine ZF trivial ?_
 refine ZS trivial (w_bx _ _ _ _ hrZ1) ?_
 refine ZG ?_
 cases h
 exact ZL trivial V141.eq_1
def S_bh (listZ0 : List TService) (rZ1 : List Int) (v : Int × List Int × List TService) : St := ⟨[(7, .sl 7 0 rZ1.length), (8, .sl 8 0 v.2.1.length), (9, .sl 9 0 v.2.2.length), (21, .lst .o 10 (listZ0.map (e_TService .o))), (22, .i (listZ0.length : Int)), (23, .i v.1)], [(7, .arr 1 (rZ1.map AV.i)), (8, .arr 1 (v.2.1.map AV.i)), (9, .arr 10 (v.2.2.map (e_TService .o)))]⟩
def SX_bh (v : List Int) : St := ⟨[(8, .sl 8 0 v.length)], [(8, .arr 1 (v.map AV.i))]⟩
theorem w_bh (listZ0 : List TService) (rZ1 : List Int) (sZ2 : Int × List Int × List TService) (o : (Int × List Int × List TService) ⊕ (List Int)) (h : M_bh listZ0 rZ1 sZ2 = some o) : AWP (OkS Tryz.prog) A70L4 (qL [7, 8, 9, 21, 22, 23] [7, 8, 9] (S_bh listZ0 rZ1) (qX 0 [8] [8] (SX_bh)) o) (S_bh listZ0 rZ1 sZ2) := by
 unfold M_bh at h
 simp only [ZC, S_bh, A70L4]
 obtain ⟨cZ3, h⟩ | ⟨cZ3, h⟩ := cond_s h
 · obtain ⟨yZ4, hyZ4, h⟩ := bind_s h
   obtain ⟨hyZ4a, hyZ4b⟩ := geti_s hyZ4
   obtain ⟨rZ5, hrZ5, h⟩ := bind_s h
   refine ZF (ZA cZ3 (ZA hyZ4a hyZ4b)) ?_
   refine ZU (ZA cZ3 (ZA hyZ4a hyZ4b)) (w_ce _ _ hrZ5) ?_
   refine ZG ?_
   obtain ⟨rZ6, hrZ6, h⟩ := bind_s h
   refine ZF (ZA cZ3 (ZA hyZ4a hyZ4b)) ?_
   refine ZU (ZA cZ3 (ZA hyZ4a hyZ4b)) (w_ce _ _ hrZ6) ?_
   refine ZG ?_
   obtain ⟨oZ23, hoZ23, h⟩ := bind_s h
   try refine ZF (ZA cZ3 (ZA hyZ4a hyZ4b)) ?_
   refine join_rule0 (sh := (fun v => ⟨[(7, .sl 7 0 rZ1.length), (8, .sl 8 0 sZ2.2.1.length), (9, .sl 9 0 v.2.length), (14, .i v.1), (21, .lst .o 10 (listZ0.map (e_TService .o))), (22, .i (listZ0.length : Int)), (23, .i sZ2.1)], [(7, .arr 1 (rZ1.map AV.i)), (8, .arr 1 (sZ2.2.1.map AV.i)), (9, .arr 10 (v.2.map (e_TService .o)))]⟩)) (s := oZ23) ?_ ?_
   · replace h := hoZ23
     obtain ⟨oZ8, hoZ8, h⟩ := bind_s h
     try refine ZF (ZA cZ3 (ZA hyZ4a hyZ4b)) ?_
     refine join_rule0 (sh := (fun v => ⟨[(7, .sl 7 0 rZ1.length), (8, .sl 8 0 sZ2.2.1.length), (9, .sl 9 0 sZ2.2.2.length), (11, .pt 11 0 0), (12, .b (decide (0 < (rZ5.length : Int)))), (13, .b (decide (0 < (rZ6.length : Int)))), (14, .i 3), (21, .lst .o 10 (listZ0.map (e_TService .o))), (22, .i (listZ0.length : Int)), (23, .i sZ2.1), (41, .b v)], [(7, .arr 1 (rZ1.map AV.i)), (8, .arr 1 (sZ2.2.1.map AV.i)), (9, .arr 10 (sZ2.2.2.map (e_TService .o))), (11, .var (.agg [.i yZ4.Id, .i yZ4.Class, .i yZ4.Work.Start, .lst .o 1 (yZ4.Work.Fibers.map AV.i), .i yZ4.WorkBlock.First, .i yZ4.WorkBlock.Count, .i yZ4.Spare.Start, .lst .o 1 (yZ4.Spare.Fibers.map AV.i), .i yZ4.SpareBlock.First, .i yZ4.SpareBlock.Count]))]⟩)) (s := oZ8) ?_ ?_
     · replace h := hoZ8
       obtain ⟨cZ7, h⟩ | ⟨cZ7, h⟩ := cond_s h
       · cases h
         exact ZL (ZA cZ3 (ZA hyZ4a (ZA hyZ4b cZ7))) trivial
       · cases h
         exact ZL (ZA cZ3 (ZA hyZ4a (ZA hyZ4b cZ7))) trivial
     · simp only [ZC, A70R1]
       obtain ⟨cZ9, h⟩ | ⟨cZ9, h⟩ := cond_s h
       · cases h
         exact ZL (ZA cZ3 (ZA hyZ4a (ZA hyZ4b cZ9))) trivial
       · obtain ⟨cZ10, h⟩ | ⟨cZ10, h⟩ := cond_s h
         · cases h
           exact ZL (ZA cZ3 (ZA hyZ4a (ZA hyZ4b (ZA cZ9 cZ10)))) trivial
         · obtain ⟨oZ12, hoZ12, h⟩ := bind_s h
           try refine ZF (ZA cZ3 (ZA hyZ4a (ZA hyZ4b (ZA cZ9 cZ10)))) ?_
           refine join_rule0 (sh := (fun v => ⟨[(7, .sl 7 0 rZ1.length), (8, .sl 8 0 sZ2.2.1.length), (9, .sl 9 0 sZ2.2.2.length), (11, .pt 11 0 0), (14, .i 3), (21, .lst .o 10 (listZ0.map (e_TService .o))), (22, .i (listZ0.length : Int)), (23, .i sZ2.1), (51, .b v)], [(7, .arr 1 (rZ1.map AV.i)), (8, .arr 1 (sZ2.2.1.map AV.i)), (9, .arr 10 (sZ2.2.2.map (e_TService .o))), (11, .var (.agg [.i yZ4.Id, .i yZ4.Class, .i yZ4.Work.Start, .lst .o 1 (yZ4.Work.Fibers.map AV.i), .i yZ4.WorkBlock.First, .i yZ4.WorkBlock.Count, .i yZ4.Spare.Start, .lst .o 1 (yZ4.Spare.Fibers.map AV.i), .i yZ4.SpareBlock.First, .i yZ4.SpareBlock.Count]))]⟩)) (s := oZ12) ?_ ?_
           · replace h := hoZ12
             obtain ⟨cZ11, h⟩ | ⟨cZ11, h⟩ := cond_s h
             · cases h
               exact ZL (ZA cZ3 (ZA hyZ4a (ZA hyZ4b (ZA cZ9 (ZA cZ10 cZ11))))) trivial
             · cases h
               exact ZL (ZA cZ3 (ZA hyZ4a (ZA hyZ4b (ZA cZ9 (ZA cZ10 cZ11))))) trivial
           · simp only [ZC, A70R2]
             obtain ⟨cZ13, h⟩ | ⟨cZ13, h⟩ := cond_s h
             · obtain ⟨rZ14, hrZ14, h⟩ := bind_s h
               refine ZF (ZA cZ3 (ZA hyZ4a (ZA hyZ4b (ZA cZ9 (ZA cZ10 cZ13))))) ?_
               refine ZS (ZA cZ3 (ZA hyZ4a (ZA hyZ4b (ZA cZ9 (ZA cZ10 cZ13))))) (w_cf _ _ hrZ14 141 [.bp (.agg [.i yZ4.Id, .i yZ4.Class, .i yZ4.Work.Start, .lst .o 1 (yZ4.Work.Fibers.map AV.i), .i yZ4.WorkBlock.First, .i yZ4.WorkBlock.Count, .i yZ4.Spare.Start, .lst .o 1 (yZ4.Spare.Fibers.map AV.i), .i yZ4.SpareBlock.First, .i yZ4.SpareBlock.Count]) 0] ⟨fun ρ k => by simp only [VS1, VS2, VS3, VS4, VS5, VS6, VT1, VT2, finM_ret, finM_nrm, decide_true, decide_false, List.nodup_nil, List.nodup_cons, oks_p, oks_m, oks_h, ne_eq, not_false_eq_true, Int.reduceEq, Int.reduceNe, true_and, false_and, Nat.reduceSub, Nat.reduceMul, ↓reduceIte, reduceCtorEq, Nat.reduceEqDiff, Nat.reduceAdd, Nat.reduceLeDiff, Int.reduceLE], by simp [mentsL, AV.ments]⟩ (fun _ _ h => w_fm _ _ h)) ?_
               refine ZG ?_
               obtain ⟨cZ15, h⟩ | ⟨cZ15, h⟩ := cond_s h
               · obtain ⟨lZ16, hlZ16, h⟩ := bnd_s h
                 have eZ17 : Row.arr 10 [(.agg [.i yZ4.Id, .i yZ4.Class, .i yZ4.Work.Start, .lst .o 1 (yZ4.Work.Fibers.map AV.i), .i yZ4.WorkBlock.First, .i yZ4.WorkBlock.Count, .i yZ4.Spare.Start, .lst .o 1 (yZ4.Spare.Fibers.map AV.i), .i yZ4.SpareBlock.First, .i yZ4.SpareBlock.Count] : AV)] = Row.arr 10 (lZ16.map (e_TService .o)) := by rw [← hlZ16]; rfl
                 have jjZ18 : lZ16.length = 1 := by rw [← hlZ16]; rfl
                 obtain ⟨uZ19, huZ19, h⟩ := bind_s h
                 have huZ19g := grd_s huZ19
                 obtain ⟨lZ20, hlZ20, h⟩ := bnd_s h
                 have eZ21 : sZ2.2.2.map (e_TService .o) ++ lZ16.map (e_TService .o) = lZ20.map (e_TService .o) := by rw [← hlZ20, List.map_append]
                 have eZ22 : sZ2.2.2.length + 1 = lZ20.length := by simp [← hlZ16, ← hlZ20] <;> omega
                 rw [eZ22] at huZ19g
                 cases h
                 exact ZL (ZA cZ3 (ZA hyZ4a (ZA hyZ4b (ZA cZ9 (ZA cZ10 (ZA cZ13 (ZA cZ15 (ZA eZ17 (ZA jjZ18 (ZA huZ19g (ZA eZ21 eZ22))))))))))) (ZA hlZ16.symm (ZA hlZ20.symm jjZ18))
               · cases h
                 exact ZL (ZA cZ3 (ZA hyZ4a (ZA hyZ4b (ZA cZ9 (ZA cZ10 (ZA cZ13 cZ15)))))) trivial
             · cases h
               exact ZL (ZA cZ3 (ZA hyZ4a (ZA hyZ4b (ZA cZ9 (ZA cZ10 cZ13))))) trivial
   · simp only [ZC, A70R3]
     obtain ⟨lZ24, hlZ24, h⟩ := bnd_s h
     have eZ25 : Row.arr 1 [(.i oZ23.1 : AV)] = Row.arr 1 (lZ24.map AV.i) := by rw [← hlZ24]; rfl
     have jjZ26 : lZ24.length = 1 := by rw [← hlZ24]; rfl
     obtain ⟨uZ27, huZ27, h⟩ := bind_s h
     have huZ27g := grd_s huZ27
     obtain ⟨lZ28, hlZ28, h⟩ := bnd_s h
     have eZ29 : sZ2.2.1.map AV.i ++ lZ24.map AV.i = lZ28.map AV.i := by rw [← hlZ28, List.map_append]
     have eZ30 : sZ2.2.1.length + 1 = lZ28.length := by simp [← hlZ24, ← hlZ28] <;> omega
     rw [eZ30] at huZ27g
     cases h
     exact ZL (ZA cZ3 (ZA hyZ4a (ZA hyZ4b (ZA eZ25 (ZA jjZ26 (ZA huZ27g (ZA eZ29 eZ30))))))) (ZA S_bh.eq_1 (ZA SX_bh.eq_1 (ZA hlZ24.symm (ZA hlZ28.symm jjZ26))))
 · cases h
   exact ZL cZ3 (ZA S_bh.eq_1 SX_bh.eq_1)
theorem w_fn (nZ0 : TNetwork) (listZ0 : List TService) (failedZ0 : List Int) {r : List Int} (h : M_fn nZ0 listZ0 failedZ0 = some r) : Ok Tryz.prog 70 [.agg [.lst .o 1 (nZ0.Nodes.map AV.z), .lst .o 4 (nZ0.Fibers.map (e_TFiber .o))], .lst .o 10 (listZ0.map (e_TService .o)), .lst .o 1 (failedZ0.map AV.i)] ((fun r => .lst .u 1 (r.map AV.i)) r) := by
 refine ok_of_body hmix m70 rfl ?_
 unfold M_fn at h
 simp only [ZC, A70, V70, body_eq]
 obtain ⟨rZ1, hrZ1, h⟩ := bind_s h
 refine ZF trivial ?_
 refine ZU trivial (w_fl _ _ hrZ1) ?_
 refine ZG ?_
 obtain ⟨oZ31, hoZ31, h⟩ := bind_s h
 try refine ZF trivial ?_
 refine join_rule0 (blk_rule0 (loop_rule (w_bh listZ0 rZ1) hoZ31 ?_)) ?_
 · exact ZK (ZA S_bh.eq_1 SX_bh.eq_1)
 · simp only [ZC, SX_bh, A70R5]
   cases h
   exact ZL trivial V70.eq_1
def S_y (ratesZ0 : List Int) (rZ1 : List Int) (v : Int × Int) : St := ⟨[(2, .lst .o 1 (ratesZ0.map AV.i)), (9, .i v.1), (15, .sl 15 0 rZ1.length), (16, .i (rZ1.length : Int)), (17, .i v.2)], [(15, .arr 1 (rZ1.map AV.i))]⟩
def SX_y (v : Int) : St := ⟨[(9, .i v)], []⟩
theorem w_y (ratesZ0 : List Int) (rZ1 : List Int) (sZ2 : Int × Int) (o : (Int × Int) ⊕ Int) (h : M_y ratesZ0 rZ1 sZ2 = some o) : AWP (OkS Tryz.prog) A115L1 (qL [2, 9, 15, 16, 17] [15] (S_y ratesZ0 rZ1) (qX 0 [9] [] (SX_y)) o) (S_y ratesZ0 rZ1 sZ2) := by
 unfold M_y at h
 simp only [ZC, S_y, A115L1]
 obtain ⟨cZ3, h⟩ | ⟨cZ3, h⟩ := cond_s h
 · obtain ⟨kZ4, hkZ4, h⟩ := bind_s h
   obtain ⟨hkZ4a, hkZ4b⟩ := grd_s hkZ4
   obtain ⟨yZ5, hyZ5, h⟩ := bind_s h
   obtain ⟨cZ6, h⟩ | ⟨cZ6, h⟩ := cond_s h
   · obtain ⟨yZ7, hyZ7, h⟩ := bind_s h
     obtain ⟨hyZ7a, hyZ7b⟩ := geti_s hyZ7
     cases h
     exact ZL (ZA cZ3 (ZA hkZ4a (ZA hkZ4b (ZA hyZ5 (ZA cZ6 (ZA hyZ7a hyZ7b)))))) (ZA S_y.eq_1 SX_y.eq_1)
   · cases h
     exact ZL (ZA cZ3 (ZA hkZ4a (ZA hkZ4b (ZA hyZ5 cZ6)))) (ZA S_y.eq_1 SX_y.eq_1)
 · cases h
   exact ZL cZ3 (ZA S_y.eq_1 SX_y.eq_1)
theorem w_fo (nZ0 : TNetwork) (listZ0 : List TService) (ratesZ0 : List Int) (failedZ0 : List Int) {r : Int} (h : M_fo nZ0 listZ0 ratesZ0 failedZ0 = some r) : Ok Tryz.prog 115 [.agg [.lst .o 1 (nZ0.Nodes.map AV.z), .lst .o 4 (nZ0.Fibers.map (e_TFiber .o))], .lst .o 10 (listZ0.map (e_TService .o)), .lst .o 1 (ratesZ0.map AV.i), .lst .o 1 (failedZ0.map AV.i)] ((fun r => .i r) r) := by
 refine ok_of_body hmix m115 rfl ?_
 unfold M_fo at h
 simp only [ZC, A115, V115, body_eq]
 obtain ⟨rZ1, hrZ1, h⟩ := bind_s h
 refine ZF trivial ?_
 refine ZU trivial (w_fn _ _ _ hrZ1) ?_
 refine ZG ?_
 obtain ⟨oZ8, hoZ8, h⟩ := bind_s h
 try refine ZF trivial ?_
 refine join_rule0 (blk_rule0 (loop_rule (w_y ratesZ0 rZ1) hoZ8 ?_)) ?_
 · exact ZK (ZA S_y.eq_1 SX_y.eq_1)
 · simp only [ZC, SX_y, A115R2]
   cases h
   exact ZL trivial V115.eq_1
theorem w_dn (aaZ0 : Nat) (abZ0 : Nat) (acZ0 : Int) (adZ0 : Int) (aeZ0 : List Int) {r : Nat × Nat × List Int} (h : M_dn aaZ0 abZ0 acZ0 adZ0 aeZ0 = some r) : OkM Tryz.prog 114 [.sl 1000000000 aaZ0 abZ0, .i acZ0, .i adZ0] [(1000000000, .arr 1 (aeZ0.map AV.i))] ((fun (r : Nat × Nat × List Int) => .sl 1000000000 r.1 r.2.1) r) ((fun (r : Nat × Nat × List Int) => [(1000000000, .arr 1 (r.2.2.map AV.i))]) r) := by
 refine okM_of_body (lr := [1000000000]) hmix m114M2 rfl rfl ?_
 unfold M_dn at h
 simp only [ZC, A114M2, V114M2]
 obtain ⟨uZ1, huZ1, h⟩ := bind_s h
 obtain ⟨huZ1a, huZ1b, huZ1c, huZ1d⟩ := grd_s huZ1
 obtain ⟨cZ2, h⟩ | ⟨cZ2, h⟩ := cond_s h
 · cases h
   exact ZL (ZA huZ1a (ZA huZ1b (ZA huZ1c (ZA huZ1d cZ2)))) V114M2.eq_1
 · obtain ⟨uZ3, huZ3, h⟩ := bind_s h
   obtain ⟨huZ3a, huZ3b, huZ3c, huZ3d⟩ := grd_s huZ3
   have huZ3z := And.intro huZ3c huZ3d
   try simp only [Int.toNat_natCast, Nat.zero_add] at huZ3z
   obtain ⟨uZ4, huZ4, h⟩ := bind_s h
   obtain ⟨huZ4a, huZ4b, huZ4c, huZ4d⟩ := grd_s huZ4
   have huZ4z := And.intro huZ4c huZ4d
   try simp only [Int.toNat_natCast, Nat.zero_add] at huZ4z
   obtain ⟨lZ5, hlZ5, h⟩ := bnd_s h
   have eZ6 : sub (aeZ0.map AV.i) (aaZ0 + (Int.toNat adZ0)) (abZ0 - (Int.toNat adZ0)) = lZ5.map AV.i := by rw [sub_mapT, hlZ5]
   obtain ⟨uZ7, huZ7, h⟩ := bind_s h
   have huZ7g := grd_s huZ7
   have huZ7z := huZ7g
   try rw [Nat.zero_add] at huZ7z
   obtain ⟨lZ8, hlZ8, h⟩ := bnd_s h
   have eZ9 : over (aeZ0.map AV.i) (aaZ0 + (Int.toNat acZ0)) (lZ5.map AV.i) = lZ8.map AV.i := by rw [← hlZ8, ← over_map] <;> simp [List.map_take]
   try simp only [Int.toNat_natCast] at eZ9
   have eZ10 : lZ8.length = aeZ0.length := by rw [← hlZ8]; exact over_length _ _ _
   obtain ⟨uZ11, huZ11, h⟩ := bind_s h
   obtain ⟨huZ11a, huZ11b, huZ11c, huZ11d⟩ := grd_s huZ11
   have huZ11z := And.intro huZ11c huZ11d
   try simp only [Int.toNat_natCast, Nat.zero_add] at huZ11z
   have huZ11w := huZ11z
   try simp only [eZ10] at huZ11w
   obtain ⟨lZ12, hlZ12, h⟩ := bnd_s h
   have eZ13 : over (lZ8.map AV.i) (aaZ0 + (Int.toNat ((((Int.toNat acZ0) + lZ5.length) : Nat) : Int))) (List.replicate ((Int.toNat (abZ0 : Int)) - (Int.toNat ((((Int.toNat acZ0) + lZ5.length) : Nat) : Int))) (.i 0 : AV)) = lZ12.map AV.i := by rw [← hlZ12, ← over_map] <;> simp [List.map_take]
   try simp only [Int.toNat_natCast] at eZ13
   have eZ14 : lZ12.length = lZ8.length := by rw [← hlZ12]; exact over_length _ _ _
   cases h
   exact ZL (ZA huZ1a (ZA huZ1b (ZA huZ1c (ZA huZ1d (ZA cZ2 (ZA huZ3a (ZA huZ3b (ZA huZ3c (ZA huZ3d (ZA huZ3z (ZA huZ4a (ZA huZ4b (ZA huZ4c (ZA huZ4d (ZA huZ4z (ZA eZ6 (ZA huZ7g (ZA huZ7z (ZA eZ9 (ZA huZ11a (ZA huZ11b (ZA huZ11c (ZA huZ11d (ZA huZ11z (ZA huZ11w eZ13))))))))))))))))))))))))) (ZA V114M2.eq_1 (ZA eZ10 eZ14))
def S_f (nZ0 : TNetwork) (listZ0 : List TService) (ratesZ0 : List Int) (sZ7 : Nat × Nat × List Int × List Int) (v : Int × Int × Int) : St := ⟨[(1, .lst .o 10 (listZ0.map (e_TService .o))), (2, .lst .o 1 (ratesZ0.map AV.i)), (4, .pt 4 0 0), (10, .sl 10 0 sZ7.2.2.1.length), (11, .sl 11 sZ7.1 sZ7.2.1), (12, .i v.1), (13, .i v.2.1), (35, .i (sZ7.2.1 : Int)), (36, .i v.2.2)], [(4, .var (.agg [.lst .o 1 (nZ0.Nodes.map AV.z), .lst .o 4 (nZ0.Fibers.map (e_TFiber .o))])), (10, .arr 1 (sZ7.2.2.1.map AV.i)), (11, .arr 1 (sZ7.2.2.2.map AV.i))]⟩
def SX_f (nZ0 : TNetwork) (listZ0 : List TService) (ratesZ0 : List Int) (sZ7 : Nat × Nat × List Int × List Int) (v : Int) : St := ⟨[(1, .lst .o 10 (listZ0.map (e_TService .o))), (2, .lst .o 1 (ratesZ0.map AV.i)), (4, .pt 4 0 0), (10, .sl 10 0 sZ7.2.2.1.length), (11, .sl 11 sZ7.1 sZ7.2.1), (12, .i v)], [(4, .var (.agg [.lst .o 1 (nZ0.Nodes.map AV.z), .lst .o 4 (nZ0.Fibers.map (e_TFiber .o))])), (10, .arr 1 (sZ7.2.2.1.map AV.i)), (11, .arr 1 (sZ7.2.2.2.map AV.i))]⟩
theorem w_f (nZ0 : TNetwork) (listZ0 : List TService) (ratesZ0 : List Int) (sZ7 : Nat × Nat × List Int × List Int) (sZ9 : Int × Int × Int) (o : (Int × Int × Int) ⊕ Int) (h : M_f nZ0 listZ0 ratesZ0 sZ7 sZ9 = some o) : AWP (OkS Tryz.prog) A35L3 (qL [1, 2, 4, 10, 11, 12, 13, 35, 36] [4, 10, 11] (S_f nZ0 listZ0 ratesZ0 sZ7) (qX 2 [1, 2, 4, 10, 11, 12] [4, 10, 11] (SX_f nZ0 listZ0 ratesZ0 sZ7)) o) (S_f nZ0 listZ0 ratesZ0 sZ7 sZ9) := by
 unfold M_f at h
 simp only [ZC, S_f, A35L3]
 obtain ⟨cZ10, h⟩ | ⟨cZ10, h⟩ := cond_s h
 · obtain ⟨lZ11, hlZ11, h⟩ := bnd_s h
   have eZ12 : sub (sZ7.2.2.2.map AV.i) sZ7.1 sZ7.2.1 = lZ11.map AV.i := by rw [sub_mapT, hlZ11]
   obtain ⟨rZ13, hrZ13, h⟩ := bind_s h
   refine ZF (ZA cZ10 eZ12) ?_
   refine ZU (ZA cZ10 eZ12) (w_df _ hrZ13) ?_
   refine ZG ?_
   obtain ⟨rZ14, hrZ14, h⟩ := bind_s h
   refine ZF (ZA cZ10 eZ12) ?_
   refine ZW (ZA cZ10 eZ12) (w_fk _ _ _ hrZ14) (h2 := by first | exact nm_ok [1000000000] rfl (by decide +kernel) | exact nm_ok2 [1000000000] [] rfl (by decide +kernel) ZQ | exact ZQ) (hk := ?_)
   refine ZG ?_
   obtain ⟨lZ15, hlZ15, h⟩ := bnd_s h
   have eZ16 : sub (rZ14.2.2.map AV.i) rZ14.1 rZ14.2.1 = lZ15.map AV.i := by rw [sub_mapT, hlZ15]
   obtain ⟨rZ17, hrZ17, h⟩ := bind_s h
   refine ZF (ZA cZ10 (ZA eZ12 eZ16)) ?_
   refine ZS (ZA cZ10 (ZA eZ12 eZ16)) (w_fo _ _ _ _ hrZ17) ?_
   refine ZG ?_
   obtain ⟨oZ19, hoZ19, h⟩ := bind_s h
   try refine ZF (ZA cZ10 (ZA eZ12 eZ16)) ?_
   refine join_rule0 (sh := (fun v => ⟨[(1, .lst .o 10 (listZ0.map (e_TService .o))), (2, .lst .o 1 (ratesZ0.map AV.i)), (4, .pt 4 0 0), (10, .sl 10 0 sZ7.2.2.1.length), (11, .sl 11 sZ7.1 sZ7.2.1), (12, .i sZ9.1), (13, .i sZ9.2.1), (14, .i sZ9.2.2), (16, .i rZ17), (35, .i (sZ7.2.1 : Int)), (36, .i sZ9.2.2), (56, .b v)], [(4, .var (.agg [.lst .o 1 (nZ0.Nodes.map AV.z), .lst .o 4 (nZ0.Fibers.map (e_TFiber .o))])), (10, .arr 1 (sZ7.2.2.1.map AV.i)), (11, .arr 1 (sZ7.2.2.2.map AV.i))]⟩)) (s := oZ19) ?_ ?_
   · replace h := hoZ19
     obtain ⟨cZ18, h⟩ | ⟨cZ18, h⟩ := cond_s h
     · cases h
       exact ZL (ZA cZ10 (ZA eZ12 (ZA eZ16 cZ18))) trivial
     · cases h
       exact ZL (ZA cZ10 (ZA eZ12 (ZA eZ16 cZ18))) trivial
   · simp only [ZC, A35R2]
     obtain ⟨cZ20, h⟩ | ⟨cZ20, h⟩ := cond_s h
     · cases h
       exact ZL (ZA cZ10 (ZA eZ12 (ZA eZ16 cZ20))) (ZA S_f.eq_1 SX_f.eq_1)
     · cases h
       exact ZL (ZA cZ10 (ZA eZ12 (ZA eZ16 cZ20))) (ZA S_f.eq_1 SX_f.eq_1)
 · cases h
   exact ZL cZ10 (ZA S_f.eq_1 SX_f.eq_1)
def S_bi (nZ0 : TNetwork) (listZ0 : List TService) (ratesZ0 : List Int) (v : Nat × Nat × List Int × List Int) : St := ⟨[(1, .lst .o 10 (listZ0.map (e_TService .o))), (2, .lst .o 1 (ratesZ0.map AV.i)), (4, .pt 4 0 0), (10, .sl 10 0 v.2.2.1.length), (11, .sl 11 v.1 v.2.1)], [(4, .var (.agg [.lst .o 1 (nZ0.Nodes.map AV.z), .lst .o 4 (nZ0.Fibers.map (e_TFiber .o))])), (10, .arr 1 (v.2.2.1.map AV.i)), (11, .arr 1 (v.2.2.2.map AV.i))]⟩
def SX_bi (v : List Int) : St := ⟨[(10, .sl 10 0 v.length)], [(10, .arr 1 (v.map AV.i))]⟩
theorem w_bi (nZ0 : TNetwork) (listZ0 : List TService) (ratesZ0 : List Int) (sZ7 : Nat × Nat × List Int × List Int) (o : (Nat × Nat × List Int × List Int) ⊕ (List Int)) (h : M_bi nZ0 listZ0 ratesZ0 sZ7 = some o) : AWP (OkS Tryz.prog) A35L5 (qL [1, 2, 4, 10, 11] [4, 10, 11] (S_bi nZ0 listZ0 ratesZ0) (qX 0 [10] [10] (SX_bi)) o) (S_bi nZ0 listZ0 ratesZ0 sZ7) := by
 unfold M_bi at h
 simp only [ZC, S_bi, A35L5]
 obtain ⟨cZ8, h⟩ | ⟨cZ8, h⟩ := cond_s h
 · obtain ⟨oZ21, hoZ21, h⟩ := bind_s h
   try refine ZF cZ8 ?_
   refine join_rule0 (blk_rule0 (loop_rule (w_f nZ0 listZ0 ratesZ0 sZ7) hoZ21 ?_)) ?_
   · exact ZK (ZA S_f.eq_1 SX_f.eq_1)
   · simp only [ZC, SX_f, A35R4]
     obtain ⟨kZ22, hkZ22, h⟩ := bind_s h
     obtain ⟨hkZ22a, hkZ22b⟩ := grd_s hkZ22
     obtain ⟨yZ23, hyZ23, h⟩ := bind_s h
     obtain ⟨lZ24, hlZ24, h⟩ := bnd_s h
     have eZ25 : Row.arr 1 [(.i yZ23 : AV)] = Row.arr 1 (lZ24.map AV.i) := by rw [← hlZ24]; rfl
     have jjZ26 : lZ24.length = 1 := by rw [← hlZ24]; rfl
     obtain ⟨uZ27, huZ27, h⟩ := bind_s h
     have huZ27g := grd_s huZ27
     obtain ⟨lZ28, hlZ28, h⟩ := bnd_s h
     have eZ29 : sZ7.2.2.1.map AV.i ++ lZ24.map AV.i = lZ28.map AV.i := by rw [← hlZ28, List.map_append]
     have eZ30 : sZ7.2.2.1.length + 1 = lZ28.length := by simp [← hlZ24, ← hlZ28] <;> omega
     rw [eZ30] at huZ27g
     obtain ⟨rZ31, hrZ31, h⟩ := bind_s h
     refine ZF (ZA cZ8 (ZA hkZ22a (ZA hkZ22b (ZA hyZ23 (ZA eZ25 (ZA jjZ26 (ZA huZ27g (ZA eZ29 eZ30)))))))) ?_
     refine ZW (ZA cZ8 (ZA hkZ22a (ZA hkZ22b (ZA hyZ23 (ZA eZ25 (ZA jjZ26 (ZA huZ27g (ZA eZ29 eZ30)))))))) (w_dn _ _ _ _ _ hrZ31) (h2 := by first | exact nm_ok [1000000000] rfl (by decide +kernel) | exact nm_ok2 [1000000000] [] rfl (by decide +kernel) ZQ | exact ZQ) (hk := ?_)
     refine ZG ?_
     cases h
     exact ZL (ZA cZ8 (ZA hkZ22a (ZA hkZ22b (ZA hyZ23 (ZA eZ25 (ZA jjZ26 (ZA huZ27g (ZA eZ29 eZ30)))))))) (ZA S_bi.eq_1 (ZA SX_bi.eq_1 (ZA hlZ24.symm (ZA hlZ28.symm jjZ26))))
 · cases h
   exact ZL cZ8 (ZA S_bi.eq_1 SX_bi.eq_1)
theorem w_dg (nZ0 : TNetwork) (listZ0 : List TService) (ratesZ0 : List Int) (groupsZ0 : List Int) {r : List Int × Bool} (h : M_dg nZ0 listZ0 ratesZ0 groupsZ0 = some r) : Ok Tryz.prog 35 [.agg [.lst .o 1 (nZ0.Nodes.map AV.z), .lst .o 4 (nZ0.Fibers.map (e_TFiber .o))], .lst .o 10 (listZ0.map (e_TService .o)), .lst .o 1 (ratesZ0.map AV.i), .lst .o 1 (groupsZ0.map AV.i)] ((fun r => .tup [.lst .u 1 (r.1.map AV.i), .b r.2]) r) := by
 refine ok_of_body hmix m35 rfl ?_
 unfold M_dg at h
 simp only [ZC, A35, V35, body_eq]
 obtain ⟨oZ4, hoZ4, h⟩ := bind_s h
 try refine ZF trivial ?_
 refine join_rule0 (sh := (fun v => ⟨[(1, .lst .o 10 (listZ0.map (e_TService .o))), (2, .lst .o 1 (ratesZ0.map AV.i)), (3, .lst .o 1 (groupsZ0.map AV.i)), (4, .pt 4 0 0), (27, .b v)], [(4, .var (.agg [.lst .o 1 (nZ0.Nodes.map AV.z), .lst .o 4 (nZ0.Fibers.map (e_TFiber .o))]))]⟩)) (s := oZ4) ?_ ?_
 · replace h := hoZ4
   obtain ⟨rZ1, hrZ1, h⟩ := bind_s h
   refine ZF trivial ?_
   refine ZS trivial (w_fg _ _ _ hrZ1) ?_
   refine ZG ?_
   obtain ⟨cZ2, h⟩ | ⟨cZ2, h⟩ := cond_s h
   · cases h
     exact ZL cZ2 trivial
   · obtain ⟨rZ3, hrZ3, h⟩ := bind_s h
     refine ZF cZ2 ?_
     refine ZS cZ2 (w_fj _ _ hrZ3) ?_
     refine ZG ?_
     cases h
     exact ZL cZ2 trivial
 · simp only [ZC, A35R1]
   obtain ⟨cZ5, h⟩ | ⟨cZ5, h⟩ := cond_s h
   · cases h
     exact ZL cZ5 V35.eq_1
   · obtain ⟨rZ6, hrZ6, h⟩ := bind_s h
     refine ZF cZ5 ?_
     refine ZU cZ5 (w_df _ hrZ6) ?_
     refine ZG ?_
     obtain ⟨oZ32, hoZ32, h⟩ := bind_s h
     try refine ZF cZ5 ?_
     refine join_rule0 (blk_rule0 (loop_rule (w_bi nZ0 listZ0 ratesZ0) hoZ32 ?_)) ?_
     · exact ZK (ZA S_bi.eq_1 SX_bi.eq_1)
     · simp only [ZC, SX_bi, A35R6]
       cases h
       exact ZL cZ5 V35.eq_1
def S_bj (aZ0 : List Int) (bZ0 : List Int) (v : Int) : St := ⟨[(0, .lst .o 1 (aZ0.map AV.i)), (1, .lst .o 1 (bZ0.map AV.i)), (5, .i v)], []⟩
def SX_bj (v : Unit) : St := ⟨[], []⟩
theorem w_bj (aZ0 : List Int) (bZ0 : List Int) (sZ2 : Int) (o : Int ⊕ (Unit ⊕ Bool)) (h : M_bj aZ0 bZ0 sZ2 = some o) : AWP (OkS Tryz.prog) A36L1 (qL [0, 1, 5] [] (S_bj aZ0 bZ0) (qS (qX 0 [] [] (SX_bj)) (qR V36 (fun r => .b r))) o) (S_bj aZ0 bZ0 sZ2) := by
 unfold M_bj at h
 simp only [ZC, S_bj, A36L1]
 obtain ⟨cZ3, h⟩ | ⟨cZ3, h⟩ := cond_s h
 · obtain ⟨yZ4, hyZ4, h⟩ := bind_s h
   obtain ⟨hyZ4a, hyZ4b⟩ := geti_s hyZ4
   obtain ⟨yZ5, hyZ5, h⟩ := bind_s h
   obtain ⟨hyZ5a, hyZ5b⟩ := geti_s hyZ5
   obtain ⟨cZ6, h⟩ | ⟨cZ6, h⟩ := cond_s h
   · cases h
     exact ZL (ZA cZ3 (ZA hyZ4a (ZA hyZ4b (ZA hyZ5a (ZA hyZ5b cZ6))))) V36.eq_1
   · cases h
     exact ZL (ZA cZ3 (ZA hyZ4a (ZA hyZ4b (ZA hyZ5a (ZA hyZ5b cZ6))))) (ZA S_bj.eq_1 SX_bj.eq_1)
 · cases h
   exact ZL cZ3 (ZA S_bj.eq_1 SX_bj.eq_1)
theorem w_bu (aZ0 : List Int) (bZ0 : List Int) {r : Bool} (h : M_bu aZ0 bZ0 = some r) : Ok Tryz.prog 36 [.lst .o 1 (aZ0.map AV.i), .lst .o 1 (bZ0.map AV.i)] ((fun r => .b r) r) := by
 refine ok_of_body hmix m36 rfl ?_
 unfold M_bu at h
 simp only [ZC, A36, V36, body_eq]
 obtain ⟨cZ1, h⟩ | ⟨cZ1, h⟩ := cond_s h
 · cases h
   exact ZL cZ1 V36.eq_1
 · obtain ⟨oZ7, hoZ7, h⟩ := bind_s h
   try refine ZF cZ1 ?_
   refine join_rule (o := oZ7) (blk_rule sideR (loop_rule (w_bj aZ0 bZ0) hoZ7 ?_)) (fun vZ8 hv => ?_) (fun xZ9 hv e τ hne hq => ?_)
   · exact ZK (ZA S_bj.eq_1 SX_bj.eq_1)
   · subst hv
     simp only [] at h
     simp only [ZC, SX_bj, A36R2]
     cases h
     exact ZL cZ1 V36.eq_1
   · subst hv
     simp only [] at h
     obtain ⟨rfl, qZ10⟩ := hq
     cases h
     exact qZ10
def S_bk (aZ0 : List ByteArray) (bZ0 : List ByteArray) (v : Int) : St := ⟨[(0, .lst .o 1 (aZ0.map AV.z)), (1, .lst .o 1 (bZ0.map AV.z)), (5, .i v)], []⟩
def SX_bk (v : Unit) : St := ⟨[], []⟩
theorem w_bk (aZ0 : List ByteArray) (bZ0 : List ByteArray) (sZ2 : Int) (o : Int ⊕ (Unit ⊕ Bool)) (h : M_bk aZ0 bZ0 sZ2 = some o) : AWP (OkS Tryz.prog) A116L1 (qL [0, 1, 5] [] (S_bk aZ0 bZ0) (qS (qX 0 [] [] (SX_bk)) (qR V116 (fun r => .b r))) o) (S_bk aZ0 bZ0 sZ2) := by
 unfold M_bk at h
 simp only [ZC, S_bk, A116L1]
 obtain ⟨cZ3, h⟩ | ⟨cZ3, h⟩ := cond_s h
 · obtain ⟨yZ4, hyZ4, h⟩ := bind_s h
   obtain ⟨hyZ4a, hyZ4b⟩ := geti_s hyZ4
   obtain ⟨yZ5, hyZ5, h⟩ := bind_s h
   obtain ⟨hyZ5a, hyZ5b⟩ := geti_s hyZ5
   obtain ⟨cZ6, h⟩ | ⟨cZ6, h⟩ := cond_s h
   · cases h
     exact ZL (ZA cZ3 (ZA hyZ4a (ZA hyZ4b (ZA hyZ5a (ZA hyZ5b cZ6))))) V116.eq_1
   · cases h
     exact ZL (ZA cZ3 (ZA hyZ4a (ZA hyZ4b (ZA hyZ5a (ZA hyZ5b cZ6))))) (ZA S_bk.eq_1 SX_bk.eq_1)
 · cases h
   exact ZL cZ3 (ZA S_bk.eq_1 SX_bk.eq_1)
theorem w_fp (aZ0 : List ByteArray) (bZ0 : List ByteArray) {r : Bool} (h : M_fp aZ0 bZ0 = some r) : Ok Tryz.prog 116 [.lst .o 1 (aZ0.map AV.z), .lst .o 1 (bZ0.map AV.z)] ((fun r => .b r) r) := by
 refine ok_of_body hmix m116 rfl ?_
 unfold M_fp at h
 simp only [ZC, A116, V116, body_eq]
 obtain ⟨cZ1, h⟩ | ⟨cZ1, h⟩ := cond_s h
 · cases h
   exact ZL cZ1 V116.eq_1
 · obtain ⟨oZ7, hoZ7, h⟩ := bind_s h
   try refine ZF cZ1 ?_
   refine join_rule (o := oZ7) (blk_rule sideR (loop_rule (w_bk aZ0 bZ0) hoZ7 ?_)) (fun vZ8 hv => ?_) (fun xZ9 hv e τ hne hq => ?_)
   · exact ZK (ZA S_bk.eq_1 SX_bk.eq_1)
   · subst hv
     simp only [] at h
     simp only [ZC, SX_bk, A116R2]
     cases h
     exact ZL cZ1 V116.eq_1
   · subst hv
     simp only [] at h
     obtain ⟨rfl, qZ10⟩ := hq
     cases h
     exact qZ10
theorem w_do (aZ0 : TFiber) (bZ0 : TFiber) {r : Bool} (h : M_do aZ0 bZ0 = some r) : Ok Tryz.prog 179 [.agg [.i aZ0.A, .i aZ0.B, .i aZ0.Length, .i aZ0.Risk], .agg [.i bZ0.A, .i bZ0.B, .i bZ0.Length, .i bZ0.Risk]] ((fun r => .b r) r) := by
 refine ok_of_body hmix m179 rfl ?_
 unfold M_do at h
 simp only [ZC, A179, V179, body_eq]
 obtain ⟨cZ1, h⟩ | ⟨cZ1, h⟩ := cond_s h
 · cases h
   exact ZL cZ1 V179.eq_1
 · obtain ⟨cZ2, h⟩ | ⟨cZ2, h⟩ := cond_s h
   · cases h
     exact ZL (ZA cZ1 cZ2) V179.eq_1
   · obtain ⟨cZ3, h⟩ | ⟨cZ3, h⟩ := cond_s h
     · cases h
       exact ZL (ZA cZ1 (ZA cZ2 cZ3)) V179.eq_1
     · obtain ⟨cZ4, h⟩ | ⟨cZ4, h⟩ := cond_s h
       · cases h
         exact ZL (ZA cZ1 (ZA cZ2 (ZA cZ3 cZ4))) V179.eq_1
       · cases h
         exact ZL (ZA cZ1 (ZA cZ2 (ZA cZ3 cZ4))) V179.eq_1
def S_bl (aZ0 : List TFiber) (bZ0 : List TFiber) (v : Int) : St := ⟨[(0, .lst .o 4 (aZ0.map (e_TFiber .o))), (1, .lst .o 4 (bZ0.map (e_TFiber .o))), (5, .i v)], []⟩
def SX_bl (v : Unit) : St := ⟨[], []⟩
theorem w_bl (aZ0 : List TFiber) (bZ0 : List TFiber) (sZ2 : Int) (o : Int ⊕ (Unit ⊕ Bool)) (h : M_bl aZ0 bZ0 sZ2 = some o) : AWP (OkS Tryz.prog) A117L1 (qL [0, 1, 5] [] (S_bl aZ0 bZ0) (qS (qX 0 [] [] (SX_bl)) (qR V117 (fun r => .b r))) o) (S_bl aZ0 bZ0 sZ2) := by
 unfold M_bl at h
 simp only [ZC, S_bl, A117L1]
 obtain ⟨cZ3, h⟩ | ⟨cZ3, h⟩ := cond_s h
 · obtain ⟨yZ4, hyZ4, h⟩ := bind_s h
   obtain ⟨hyZ4a, hyZ4b⟩ := geti_s hyZ4
   obtain ⟨yZ5, hyZ5, h⟩ := bind_s h
   obtain ⟨hyZ5a, hyZ5b⟩ := geti_s hyZ5
   obtain ⟨rZ6, hrZ6, h⟩ := bind_s h
   refine ZF (ZA cZ3 (ZA hyZ4a (ZA hyZ4b (ZA hyZ5a hyZ5b)))) ?_
   refine ZS (ZA cZ3 (ZA hyZ4a (ZA hyZ4b (ZA hyZ5a hyZ5b)))) (w_do _ _ hrZ6) ?_
   refine ZG ?_
   obtain ⟨cZ7, h⟩ | ⟨cZ7, h⟩ := cond_s h
   · cases h
     exact ZL (ZA cZ3 (ZA hyZ4a (ZA hyZ4b (ZA hyZ5a (ZA hyZ5b cZ7))))) V117.eq_1
   · cases h
     exact ZL (ZA cZ3 (ZA hyZ4a (ZA hyZ4b (ZA hyZ5a (ZA hyZ5b cZ7))))) (ZA S_bl.eq_1 SX_bl.eq_1)
 · cases h
   exact ZL cZ3 (ZA S_bl.eq_1 SX_bl.eq_1)
theorem w_fq (aZ0 : List TFiber) (bZ0 : List TFiber) {r : Bool} (h : M_fq aZ0 bZ0 = some r) : Ok Tryz.prog 117 [.lst .o 4 (aZ0.map (e_TFiber .o)), .lst .o 4 (bZ0.map (e_TFiber .o))] ((fun r => .b r) r) := by
 refine ok_of_body hmix m117 rfl ?_
 unfold M_fq at h
 simp only [ZC, A117, V117, body_eq]
 obtain ⟨cZ1, h⟩ | ⟨cZ1, h⟩ := cond_s h
 · cases h
   exact ZL cZ1 V117.eq_1
 · obtain ⟨oZ8, hoZ8, h⟩ := bind_s h
   try refine ZF cZ1 ?_
   refine join_rule (o := oZ8) (blk_rule sideR (loop_rule (w_bl aZ0 bZ0) hoZ8 ?_)) (fun vZ9 hv => ?_) (fun xZ10 hv e τ hne hq => ?_)
   · exact ZK (ZA S_bl.eq_1 SX_bl.eq_1)
   · subst hv
     simp only [] at h
     simp only [ZC, SX_bl, A117R2]
     cases h
     exact ZL cZ1 V117.eq_1
   · subst hv
     simp only [] at h
     obtain ⟨rfl, qZ11⟩ := hq
     cases h
     exact qZ11
theorem w_fr (aZ0 : TNetwork) (bZ0 : TNetwork) {r : Bool} (h : M_fr aZ0 bZ0 = some r) : Ok Tryz.prog 37 [.agg [.lst .o 1 (aZ0.Nodes.map AV.z), .lst .o 4 (aZ0.Fibers.map (e_TFiber .o))], .agg [.lst .o 1 (bZ0.Nodes.map AV.z), .lst .o 4 (bZ0.Fibers.map (e_TFiber .o))]] ((fun r => .b r) r) := by
 refine ok_of_body hmix m37 rfl ?_
 unfold M_fr at h
 simp only [ZC, A37, V37, body_eq]
 obtain ⟨rZ1, hrZ1, h⟩ := bind_s h
 refine ZF trivial ?_
 refine ZS trivial (w_fp _ _ hrZ1) ?_
 refine ZG ?_
 obtain ⟨cZ2, h⟩ | ⟨cZ2, h⟩ := cond_s h
 · cases h
   exact ZL cZ2 V37.eq_1
 · obtain ⟨rZ3, hrZ3, h⟩ := bind_s h
   refine ZF cZ2 ?_
   refine ZS cZ2 (w_fq _ _ hrZ3) ?_
   refine ZG ?_
   obtain ⟨cZ4, h⟩ | ⟨cZ4, h⟩ := cond_s h
   · cases h
     exact ZL (ZA cZ2 cZ4) V37.eq_1
   · cases h
     exact ZL (ZA cZ2 cZ4) V37.eq_1
theorem w_dh (aZ0 : TRoute) (bZ0 : TRoute) {r : Bool} (h : M_dh aZ0 bZ0 = some r) : Ok Tryz.prog 48 [.agg [.i aZ0.Start, .lst .o 1 (aZ0.Fibers.map AV.i)], .agg [.i bZ0.Start, .lst .o 1 (bZ0.Fibers.map AV.i)]] ((fun r => .b r) r) := by
 refine ok_of_body hmix m48 rfl ?_
 unfold M_dh at h
 simp only [ZC, A48, V48, body_eq]
 obtain ⟨cZ1, h⟩ | ⟨cZ1, h⟩ := cond_s h
 · cases h
   exact ZL cZ1 V48.eq_1
 · obtain ⟨rZ2, hrZ2, h⟩ := bind_s h
   refine ZF cZ1 ?_
   refine ZS cZ1 (w_bu _ _ hrZ2) ?_
   refine ZG ?_
   obtain ⟨cZ3, h⟩ | ⟨cZ3, h⟩ := cond_s h
   · cases h
     exact ZL (ZA cZ1 cZ3) V48.eq_1
   · cases h
     exact ZL (ZA cZ1 cZ3) V48.eq_1
theorem w_di (aZ0 : TBlock) (bZ0 : TBlock) {r : Bool} (h : M_di aZ0 bZ0 = some r) : Ok Tryz.prog 180 [.agg [.i aZ0.First, .i aZ0.Count], .agg [.i bZ0.First, .i bZ0.Count]] ((fun r => .b r) r) := by
 refine ok_of_body hmix m180 rfl ?_
 unfold M_di at h
 simp only [ZC, A180, V180, body_eq]
 obtain ⟨cZ1, h⟩ | ⟨cZ1, h⟩ := cond_s h
 · cases h
   exact ZL cZ1 V180.eq_1
 · obtain ⟨cZ2, h⟩ | ⟨cZ2, h⟩ := cond_s h
   · cases h
     exact ZL (ZA cZ1 cZ2) V180.eq_1
   · cases h
     exact ZL (ZA cZ1 cZ2) V180.eq_1
theorem w_dp (aZ0 : TService) (bZ0 : TService) {r : Bool} (h : M_dp aZ0 bZ0 = some r) : Ok Tryz.prog 118 [.agg [.i aZ0.Id, .i aZ0.Class, .i aZ0.Work.Start, .lst .o 1 (aZ0.Work.Fibers.map AV.i), .i aZ0.WorkBlock.First, .i aZ0.WorkBlock.Count, .i aZ0.Spare.Start, .lst .o 1 (aZ0.Spare.Fibers.map AV.i), .i aZ0.SpareBlock.First, .i aZ0.SpareBlock.Count], .agg [.i bZ0.Id, .i bZ0.Class, .i bZ0.Work.Start, .lst .o 1 (bZ0.Work.Fibers.map AV.i), .i bZ0.WorkBlock.First, .i bZ0.WorkBlock.Count, .i bZ0.Spare.Start, .lst .o 1 (bZ0.Spare.Fibers.map AV.i), .i bZ0.SpareBlock.First, .i bZ0.SpareBlock.Count]] ((fun r => .b r) r) := by
 refine ok_of_body hmix m118 rfl ?_
 unfold M_dp at h
 simp only [ZC, A118, V118, body_eq]
 obtain ⟨cZ1, h⟩ | ⟨cZ1, h⟩ := cond_s h
 · cases h
   exact ZL cZ1 V118.eq_1
 · obtain ⟨cZ2, h⟩ | ⟨cZ2, h⟩ := cond_s h
   · cases h
     exact ZL (ZA cZ1 cZ2) V118.eq_1
   · obtain ⟨rZ3, hrZ3, h⟩ := bind_s h
     refine ZF (ZA cZ1 cZ2) ?_
     refine ZS (ZA cZ1 cZ2) (w_dh _ _ hrZ3) ?_
     refine ZG ?_
     obtain ⟨cZ4, h⟩ | ⟨cZ4, h⟩ := cond_s h
     · cases h
       exact ZL (ZA cZ1 (ZA cZ2 cZ4)) V118.eq_1
     · obtain ⟨rZ5, hrZ5, h⟩ := bind_s h
       refine ZF (ZA cZ1 (ZA cZ2 cZ4)) ?_
       refine ZS (ZA cZ1 (ZA cZ2 cZ4)) (w_di _ _ hrZ5) ?_
       refine ZG ?_
       obtain ⟨cZ6, h⟩ | ⟨cZ6, h⟩ := cond_s h
       · cases h
         exact ZL (ZA cZ1 (ZA cZ2 (ZA cZ4 cZ6))) V118.eq_1
       · obtain ⟨rZ7, hrZ7, h⟩ := bind_s h
         refine ZF (ZA cZ1 (ZA cZ2 (ZA cZ4 cZ6))) ?_
         refine ZS (ZA cZ1 (ZA cZ2 (ZA cZ4 cZ6))) (w_dh _ _ hrZ7) ?_
         refine ZG ?_
         obtain ⟨cZ8, h⟩ | ⟨cZ8, h⟩ := cond_s h
         · cases h
           exact ZL (ZA cZ1 (ZA cZ2 (ZA cZ4 (ZA cZ6 cZ8)))) V118.eq_1
         · obtain ⟨rZ9, hrZ9, h⟩ := bind_s h
           refine ZF (ZA cZ1 (ZA cZ2 (ZA cZ4 (ZA cZ6 cZ8)))) ?_
           refine ZS (ZA cZ1 (ZA cZ2 (ZA cZ4 (ZA cZ6 cZ8)))) (w_di _ _ hrZ9) ?_
           refine ZG ?_
           obtain ⟨cZ10, h⟩ | ⟨cZ10, h⟩ := cond_s h
           · cases h
             exact ZL (ZA cZ1 (ZA cZ2 (ZA cZ4 (ZA cZ6 (ZA cZ8 cZ10))))) V118.eq_1
           · cases h
             exact ZL (ZA cZ1 (ZA cZ2 (ZA cZ4 (ZA cZ6 (ZA cZ8 cZ10))))) V118.eq_1
def S_bm (aZ0 : List TService) (bZ0 : List TService) (v : Int) : St := ⟨[(0, .lst .o 10 (aZ0.map (e_TService .o))), (1, .lst .o 10 (bZ0.map (e_TService .o))), (5, .i v)], []⟩
def SX_bm (v : Unit) : St := ⟨[], []⟩
theorem w_bm (aZ0 : List TService) (bZ0 : List TService) (sZ2 : Int) (o : Int ⊕ (Unit ⊕ Bool)) (h : M_bm aZ0 bZ0 sZ2 = some o) : AWP (OkS Tryz.prog) A38L1 (qL [0, 1, 5] [] (S_bm aZ0 bZ0) (qS (qX 0 [] [] (SX_bm)) (qR V38 (fun r => .b r))) o) (S_bm aZ0 bZ0 sZ2) := by
 unfold M_bm at h
 simp only [ZC, S_bm, A38L1]
 obtain ⟨cZ3, h⟩ | ⟨cZ3, h⟩ := cond_s h
 · obtain ⟨yZ4, hyZ4, h⟩ := bind_s h
   obtain ⟨hyZ4a, hyZ4b⟩ := geti_s hyZ4
   obtain ⟨yZ5, hyZ5, h⟩ := bind_s h
   obtain ⟨hyZ5a, hyZ5b⟩ := geti_s hyZ5
   obtain ⟨rZ6, hrZ6, h⟩ := bind_s h
   refine ZF (ZA cZ3 (ZA hyZ4a (ZA hyZ4b (ZA hyZ5a hyZ5b)))) ?_
   refine ZS (ZA cZ3 (ZA hyZ4a (ZA hyZ4b (ZA hyZ5a hyZ5b)))) (w_dp _ _ hrZ6) ?_
   refine ZG ?_
   obtain ⟨cZ7, h⟩ | ⟨cZ7, h⟩ := cond_s h
   · cases h
     exact ZL (ZA cZ3 (ZA hyZ4a (ZA hyZ4b (ZA hyZ5a (ZA hyZ5b cZ7))))) V38.eq_1
   · cases h
     exact ZL (ZA cZ3 (ZA hyZ4a (ZA hyZ4b (ZA hyZ5a (ZA hyZ5b cZ7))))) (ZA S_bm.eq_1 SX_bm.eq_1)
 · cases h
   exact ZL cZ3 (ZA S_bm.eq_1 SX_bm.eq_1)
theorem w_fs (aZ0 : List TService) (bZ0 : List TService) {r : Bool} (h : M_fs aZ0 bZ0 = some r) : Ok Tryz.prog 38 [.lst .o 10 (aZ0.map (e_TService .o)), .lst .o 10 (bZ0.map (e_TService .o))] ((fun r => .b r) r) := by
 refine ok_of_body hmix m38 rfl ?_
 unfold M_fs at h
 simp only [ZC, A38, V38, body_eq]
 obtain ⟨cZ1, h⟩ | ⟨cZ1, h⟩ := cond_s h
 · cases h
   exact ZL cZ1 V38.eq_1
 · obtain ⟨oZ8, hoZ8, h⟩ := bind_s h
   try refine ZF cZ1 ?_
   refine join_rule (o := oZ8) (blk_rule sideR (loop_rule (w_bm aZ0 bZ0) hoZ8 ?_)) (fun vZ9 hv => ?_) (fun xZ10 hv e τ hne hq => ?_)
   · exact ZK (ZA S_bm.eq_1 SX_bm.eq_1)
   · subst hv
     simp only [] at h
     simp only [ZC, SX_bm, A38R2]
     cases h
     exact ZL cZ1 V38.eq_1
   · subst hv
     simp only [] at h
     obtain ⟨rfl, qZ11⟩ := hq
     cases h
     exact qZ11
def S_bn (v : Int × ByteArray) : St := ⟨[(0, .i v.1), (3, .z v.2)], []⟩
def SX_bn (v : ByteArray) : St := ⟨[(3, .z v)], []⟩
theorem w_bn (sZ2 : Int × ByteArray) (o : (Int × ByteArray) ⊕ ByteArray) (h : M_bn sZ2 = some o) : AWP (OkS Tryz.prog) A181L1 (qL [0, 3] [] (S_bn) (qX 0 [3] [] (SX_bn)) o) (S_bn sZ2) := by
 unfold M_bn at h
 simp only [ZC, S_bn, A181L1]
 obtain ⟨cZ3, h⟩ | ⟨cZ3, h⟩ := cond_s h
 · obtain ⟨uZ4, huZ4, h⟩ := bind_s h
   have huZ4g := grd_s huZ4
   obtain ⟨lZ5, hlZ5, h⟩ := bnd_s h
   have eZ6 : Row.arr 1 [(.sc (.int .u8 (IntKind.wrap .u8 (IntKind.wrap .i64 (48 + (Int.tmod sZ2.1 10))))) : AV)] = Row.arr 1 (lZ5.map AV.u8) := by rw [← hlZ5]; rfl
   have jjZ7 : lZ5.length = 1 := by rw [← hlZ5]; rfl
   have nZ8 : sub (lZ5.map AV.u8) 0 1 = lZ5.map AV.u8 := sub_n _ (by simp [← hlZ5])
   obtain ⟨uZ9, huZ9, h⟩ := bind_s h
   have huZ9g := grd_s huZ9
   obtain ⟨uZ10, huZ10, h⟩ := bind_s h
   have huZ10g := grd_s huZ10
   cases h
   exact ZL (ZA cZ3 (ZA huZ4g (ZA eZ6 (ZA jjZ7 (ZA nZ8 (ZA huZ9g huZ10g)))))) (ZA S_bn.eq_1 (ZA SX_bn.eq_1 (ZA hlZ5.symm jjZ7)))
 · cases h
   exact ZL cZ3 (ZA S_bn.eq_1 SX_bn.eq_1)
theorem w_dj (kZ0 : Int) {r : ByteArray} (h : M_dj kZ0 = some r) : Ok Tryz.prog 181 [.i kZ0] ((fun r => .z r) r) := by
 refine ok_of_body hmix m181 rfl ?_
 unfold M_dj at h
 simp only [ZC, A181, V181, body_eq]
 obtain ⟨cZ1, h⟩ | ⟨cZ1, h⟩ := cond_s h
 · cases h
   exact ZL cZ1 V181.eq_1
 · obtain ⟨oZ11, hoZ11, h⟩ := bind_s h
   try refine ZF cZ1 ?_
   refine join_rule0 (blk_rule0 (loop_rule (w_bn) hoZ11 ?_)) ?_
   · exact ZK (ZA S_bn.eq_1 SX_bn.eq_1)
   · simp only [ZC, SX_bn, A181R2]
     obtain ⟨uZ12, huZ12, h⟩ := bind_s h
     have huZ12g := grd_s huZ12
     cases h
     exact ZL (ZA cZ1 huZ12g) V181.eq_1
def S_bo (v : Int × Int × List ByteArray) : St := ⟨[(0, .sl 1000000000 0 v.2.2.length), (1, .i v.1), (5, .i v.2.1)], [(1000000000, .arr 1 (v.2.2.map AV.z))]⟩
def SX_bo (v : Int × List ByteArray) : St := ⟨[(1, .i v.1)], [(1000000000, .arr 1 (v.2.map AV.z))]⟩
theorem w_bo (sZ1 : Int × Int × List ByteArray) (o : (Int × Int × List ByteArray) ⊕ (Int × List ByteArray)) (h : M_bo sZ1 = some o) : AWP (OkS Tryz.prog) A119M1L1 (qL [0, 1, 5] [1000000000] (S_bo) (qX 0 [1] [1000000000] (SX_bo)) o) (S_bo sZ1) := by
 unfold M_bo at h
 simp only [ZC, S_bo, A119M1L1]
 obtain ⟨cZ2, h⟩ | ⟨cZ2, h⟩ := cond_s h
 · obtain ⟨rZ3, hrZ3, h⟩ := bind_s h
   refine ZF cZ2 ?_
   refine ZS cZ2 (w_dj _ hrZ3) ?_
   refine ZG ?_
   obtain ⟨kZ4, hkZ4, h⟩ := bind_s h
   obtain ⟨hkZ4a, hkZ4b⟩ := grd_s hkZ4
   obtain ⟨yZ5, hyZ5, h⟩ := bind_s h
   obtain ⟨lZ6, hlZ6, h⟩ := bnd_s h
   have eZ7 : (sZ1.2.2.map AV.z).set (Int.toNat sZ1.2.1) (.z rZ3) = lZ6.map AV.z := by rw [← hlZ6, List.map_set]
   cases h
   exact ZL (ZA cZ2 (ZA hkZ4a (ZA hkZ4b (ZA hyZ5 eZ7)))) (ZA S_bo.eq_1 (ZA SX_bo.eq_1 hlZ6.symm))
 · cases h
   exact ZL cZ2 (ZA S_bo.eq_1 SX_bo.eq_1)
theorem w_ft (aaZ0 : Int) (abZ0 : List ByteArray) {r : Int × List ByteArray} (h : M_ft aaZ0 abZ0 = some r) : OkM Tryz.prog 119 [.sl 1000000000 0 abZ0.length, .i aaZ0] [(1000000000, .arr 1 (abZ0.map AV.z))] ((fun (r : Int × List ByteArray) => .i r.1) r) ((fun (r : Int × List ByteArray) => [(1000000000, .arr 1 (r.2.map AV.z))]) r) := by
 refine okM_of_body (lr := [1000000000]) hmix m119M1 rfl rfl ?_
 unfold M_ft at h
 simp only [ZC, A119M1, V119M1]
 obtain ⟨oZ8, hoZ8, h⟩ := bind_s h
 try refine ZF trivial ?_
 refine join_rule0 (blk_rule0 (loop_rule (w_bo) hoZ8 ?_)) ?_
 · exact ZK (ZA S_bo.eq_1 SX_bo.eq_1)
 · simp only [ZC, SX_bo, A119M1R2]
   cases h
   exact ZL trivial V119M1.eq_1
def S_bp (v : Int × Int × List TFiber) : St := ⟨[(0, .sl 1000000000 0 v.2.2.length), (1, .i v.1), (5, .i v.2.1)], [(1000000000, .arr 4 (v.2.2.map (e_TFiber .u)))]⟩
def SX_bp (v : Int × List TFiber) : St := ⟨[(1, .i v.1)], [(1000000000, .arr 4 (v.2.map (e_TFiber .u)))]⟩
theorem w_bp (sZ1 : Int × Int × List TFiber) (o : (Int × Int × List TFiber) ⊕ (Int × List TFiber)) (h : M_bp sZ1 = some o) : AWP (OkS Tryz.prog) A120M1L1 (qL [0, 1, 5] [1000000000] (S_bp) (qX 0 [1] [1000000000] (SX_bp)) o) (S_bp sZ1) := by
 unfold M_bp at h
 simp only [ZC, S_bp, A120M1L1]
 obtain ⟨cZ2, h⟩ | ⟨cZ2, h⟩ := cond_s h
 · obtain ⟨kZ3, hkZ3, h⟩ := bind_s h
   obtain ⟨hkZ3a, hkZ3b⟩ := grd_s hkZ3
   obtain ⟨yZ4, hyZ4, h⟩ := bind_s h
   obtain ⟨lZ5, hlZ5, h⟩ := bnd_s h
   have eZ6 : (sZ1.2.2.map (e_TFiber .u)).set (Int.toNat sZ1.2.1) (.agg [.i sZ1.1, .i yZ4.B, .i yZ4.Length, .i yZ4.Risk]) = lZ5.map (e_TFiber .u) := by rw [← hlZ5, List.map_set]; rfl
   obtain ⟨yZ7, hyZ7, h⟩ := bind_s h
   obtain ⟨lZ8, hlZ8, h⟩ := bnd_s h
   have eZ9 : (lZ5.map (e_TFiber .u)).set (Int.toNat sZ1.2.1) (.agg [.i yZ7.A, .i (IntKind.wrap .i64 (sZ1.1 + 1)), .i yZ7.Length, .i yZ7.Risk]) = lZ8.map (e_TFiber .u) := by rw [← hlZ8, List.map_set]; rfl
   obtain ⟨yZ10, hyZ10, h⟩ := bind_s h
   obtain ⟨lZ11, hlZ11, h⟩ := bnd_s h
   have eZ12 : (lZ8.map (e_TFiber .u)).set (Int.toNat sZ1.2.1) (.agg [.i yZ10.A, .i yZ10.B, .i (IntKind.wrap .i64 ((IntKind.wrap .i64 (sZ1.1 + 1)) + 1)), .i yZ10.Risk]) = lZ11.map (e_TFiber .u) := by rw [← hlZ11, List.map_set]; rfl
   obtain ⟨yZ13, hyZ13, h⟩ := bind_s h
   obtain ⟨lZ14, hlZ14, h⟩ := bnd_s h
   have eZ15 : (lZ11.map (e_TFiber .u)).set (Int.toNat sZ1.2.1) (.agg [.i yZ13.A, .i yZ13.B, .i yZ13.Length, .i (IntKind.wrap .i64 ((IntKind.wrap .i64 ((IntKind.wrap .i64 (sZ1.1 + 1)) + 1)) + 1))]) = lZ14.map (e_TFiber .u) := by rw [← hlZ14, List.map_set]; rfl
   cases h
   exact ZL (ZA cZ2 (ZA hkZ3a (ZA hkZ3b (ZA hyZ4 (ZA eZ6 (ZA hyZ7 (ZA eZ9 (ZA hyZ10 (ZA eZ12 (ZA hyZ13 eZ15)))))))))) (ZA S_bp.eq_1 (ZA SX_bp.eq_1 (ZA hlZ5.symm (ZA hlZ8.symm (ZA hlZ11.symm hlZ14.symm)))))
 · cases h
   exact ZL cZ2 (ZA S_bp.eq_1 SX_bp.eq_1)
theorem w_fu (aaZ0 : Int) (abZ0 : List TFiber) {r : Int × List TFiber} (h : M_fu aaZ0 abZ0 = some r) : OkM Tryz.prog 120 [.sl 1000000000 0 abZ0.length, .i aaZ0] [(1000000000, .arr 4 (abZ0.map (e_TFiber .u)))] ((fun (r : Int × List TFiber) => .i r.1) r) ((fun (r : Int × List TFiber) => [(1000000000, .arr 4 (r.2.map (e_TFiber .u)))]) r) := by
 refine okM_of_body (lr := [1000000000]) hmix m120M1 rfl rfl ?_
 unfold M_fu at h
 simp only [ZC, A120M1, V120M1]
 obtain ⟨oZ16, hoZ16, h⟩ := bind_s h
 try refine ZF trivial ?_
 refine join_rule0 (blk_rule0 (loop_rule (w_bp) hoZ16 ?_)) ?_
 · exact ZK (ZA S_bp.eq_1 SX_bp.eq_1)
 · simp only [ZC, SX_bp, A120M1R2]
   cases h
   exact ZL trivial V120M1.eq_1
theorem w_fv (aaZ0 : Int) (abZ0 : List ByteArray) (acZ0 : List TFiber) {r : Int × List ByteArray × List TFiber} (h : M_fv aaZ0 abZ0 acZ0 = some r) : OkM Tryz.prog 39 [.agg [.sl 1000000000 0 abZ0.length, .sl 1000000001 0 acZ0.length], .i aaZ0] [(1000000000, .arr 1 (abZ0.map AV.z)), (1000000001, .arr 4 (acZ0.map (e_TFiber .u)))] ((fun (r : Int × List ByteArray × List TFiber) => .i r.1) r) ((fun (r : Int × List ByteArray × List TFiber) => [(1000000000, .arr 1 (r.2.1.map AV.z)), (1000000001, .arr 4 (r.2.2.map (e_TFiber .u)))]) r) := by
 refine okM_of_body (lr := [1000000000, 1000000001]) hmix m39M1 rfl rfl ?_
 unfold M_fv at h
 simp only [ZC, A39M1, V39M1]
 obtain ⟨rZ1, hrZ1, h⟩ := bind_s h
 refine ZF trivial ?_
 refine ZW trivial (w_ft _ _ hrZ1) (h2 := by first | exact nm_ok [1000000000] rfl (by decide +kernel) | exact nm_ok2 [1000000000] [] rfl (by decide +kernel) ZQ | exact ZQ) (hk := ?_)
 refine ZG ?_
 obtain ⟨rZ2, hrZ2, h⟩ := bind_s h
 refine ZF trivial ?_
 refine ZW trivial (w_fu _ _ hrZ2) (h2 := by first | exact nm_ok [1000000000] rfl (by decide +kernel) | exact nm_ok2 [1000000000] [] rfl (by decide +kernel) ZQ | exact ZQ) (hk := ?_)
 refine ZG ?_
 cases h
 exact ZL trivial V39M1.eq_1
def S_bq (v : Int × Int × List Int) : St := ⟨[(0, .sl 1000000000 0 v.2.2.length), (1, .i v.1), (5, .i v.2.1)], [(1000000000, .arr 1 (v.2.2.map AV.i))]⟩
def SX_bq (v : Int × List Int) : St := ⟨[(1, .i v.1)], [(1000000000, .arr 1 (v.2.map AV.i))]⟩
theorem w_bq (sZ1 : Int × Int × List Int) (o : (Int × Int × List Int) ⊕ (Int × List Int)) (h : M_bq sZ1 = some o) : AWP (OkS Tryz.prog) A41M1L1 (qL [0, 1, 5] [1000000000] (S_bq) (qX 0 [1] [1000000000] (SX_bq)) o) (S_bq sZ1) := by
 unfold M_bq at h
 simp only [ZC, S_bq, A41M1L1]
 obtain ⟨cZ2, h⟩ | ⟨cZ2, h⟩ := cond_s h
 · obtain ⟨kZ3, hkZ3, h⟩ := bind_s h
   obtain ⟨hkZ3a, hkZ3b⟩ := grd_s hkZ3
   obtain ⟨yZ4, hyZ4, h⟩ := bind_s h
   obtain ⟨lZ5, hlZ5, h⟩ := bnd_s h
   have eZ6 : (sZ1.2.2.map AV.i).set (Int.toNat sZ1.2.1) (.i sZ1.1) = lZ5.map AV.i := by rw [← hlZ5, List.map_set]
   cases h
   exact ZL (ZA cZ2 (ZA hkZ3a (ZA hkZ3b (ZA hyZ4 eZ6)))) (ZA S_bq.eq_1 (ZA SX_bq.eq_1 hlZ5.symm))
 · cases h
   exact ZL cZ2 (ZA S_bq.eq_1 SX_bq.eq_1)
theorem w_by (aaZ0 : Int) (abZ0 : List Int) {r : Int × List Int} (h : M_by aaZ0 abZ0 = some r) : OkM Tryz.prog 41 [.sl 1000000000 0 abZ0.length, .i aaZ0] [(1000000000, .arr 1 (abZ0.map AV.i))] ((fun (r : Int × List Int) => .i r.1) r) ((fun (r : Int × List Int) => [(1000000000, .arr 1 (r.2.map AV.i))]) r) := by
 refine okM_of_body (lr := [1000000000]) hmix m41M1 rfl rfl ?_
 unfold M_by at h
 simp only [ZC, A41M1, V41M1]
 obtain ⟨oZ7, hoZ7, h⟩ := bind_s h
 try refine ZF trivial ?_
 refine join_rule0 (blk_rule0 (loop_rule (w_bq) hoZ7 ?_)) ?_
 · exact ZK (ZA S_bq.eq_1 SX_bq.eq_1)
 · simp only [ZC, SX_bq, A41M1R2]
   cases h
   exact ZL trivial V41M1.eq_1
def S_br (v : Int × Int × List TService) : St := ⟨[(0, .sl 1000000000 0 v.2.2.length), (1, .i v.1), (5, .i v.2.1)], [(1000000000, .arr 10 (v.2.2.map (e_TService .u)))]⟩
def SX_br (v : Int × List TService) : St := ⟨[(1, .i v.1)], [(1000000000, .arr 10 (v.2.map (e_TService .u)))]⟩
theorem w_br (sZ1 : Int × Int × List TService) (o : (Int × Int × List TService) ⊕ (Int × List TService)) (h : M_br sZ1 = some o) : AWP (OkS Tryz.prog) A40M1L1 (qL [0, 1, 5] [1000000000] (S_br) (qX 0 [1] [1000000000] (SX_br)) o) (S_br sZ1) := by
 unfold M_br at h
 simp only [ZC, S_br, A40M1L1]
 obtain ⟨cZ2, h⟩ | ⟨cZ2, h⟩ := cond_s h
 · obtain ⟨kZ3, hkZ3, h⟩ := bind_s h
   obtain ⟨hkZ3a, hkZ3b⟩ := grd_s hkZ3
   obtain ⟨yZ4, hyZ4, h⟩ := bind_s h
   obtain ⟨lZ5, hlZ5, h⟩ := bnd_s h
   have eZ6 : (sZ1.2.2.map (e_TService .u)).set (Int.toNat sZ1.2.1) (.agg [.i sZ1.1, .i yZ4.Class, .i yZ4.Work.Start, .lst .u 1 (yZ4.Work.Fibers.map AV.i), .i yZ4.WorkBlock.First, .i yZ4.WorkBlock.Count, .i yZ4.Spare.Start, .lst .u 1 (yZ4.Spare.Fibers.map AV.i), .i yZ4.SpareBlock.First, .i yZ4.SpareBlock.Count]) = lZ5.map (e_TService .u) := by rw [← hlZ5, List.map_set]; rfl
   obtain ⟨yZ7, hyZ7, h⟩ := bind_s h
   obtain ⟨lZ8, hlZ8, h⟩ := bnd_s h
   have eZ9 : (lZ5.map (e_TService .u)).set (Int.toNat sZ1.2.1) (.agg [.i yZ7.Id, .i (IntKind.wrap .i64 (sZ1.1 + 1)), .i yZ7.Work.Start, .lst .u 1 (yZ7.Work.Fibers.map AV.i), .i yZ7.WorkBlock.First, .i yZ7.WorkBlock.Count, .i yZ7.Spare.Start, .lst .u 1 (yZ7.Spare.Fibers.map AV.i), .i yZ7.SpareBlock.First, .i yZ7.SpareBlock.Count]) = lZ8.map (e_TService .u) := by rw [← hlZ8, List.map_set]; rfl
   obtain ⟨yZ10, hyZ10, h⟩ := bind_s h
   obtain ⟨lZ11, hlZ11, h⟩ := bnd_s h
   have eZ12 : (lZ8.map (e_TService .u)).set (Int.toNat sZ1.2.1) (.agg [.i yZ10.Id, .i yZ10.Class, .i (IntKind.wrap .i64 ((IntKind.wrap .i64 (sZ1.1 + 1)) + 1)), .lst .u 1 (yZ10.Work.Fibers.map AV.i), .i yZ10.WorkBlock.First, .i yZ10.WorkBlock.Count, .i yZ10.Spare.Start, .lst .u 1 (yZ10.Spare.Fibers.map AV.i), .i yZ10.SpareBlock.First, .i yZ10.SpareBlock.Count]) = lZ11.map (e_TService .u) := by rw [← hlZ11, List.map_set]; rfl
   obtain ⟨yZ13, hyZ13, h⟩ := bind_s h
   obtain ⟨rZ14, hrZ14, h⟩ := bind_s h
   obtain ⟨lZ15, hlZ15, h⟩ := bnd_s h
   have eZ16 : (lZ11.map (e_TService .u)).set (Int.toNat sZ1.2.1) (.agg [.i yZ13.Id, .i yZ13.Class, .i yZ13.Work.Start, .lst .u 1 (rZ14.2.map AV.i), .i yZ13.WorkBlock.First, .i yZ13.WorkBlock.Count, .i yZ13.Spare.Start, .lst .u 1 (yZ13.Spare.Fibers.map AV.i), .i yZ13.SpareBlock.First, .i yZ13.SpareBlock.Count]) = lZ15.map (e_TService .u) := by rw [← hlZ15, List.map_set]; rfl
   refine ZF (ZA cZ2 (ZA hkZ3a (ZA hkZ3b (ZA hyZ4 (ZA eZ6 (ZA hyZ7 (ZA eZ9 (ZA hyZ10 (ZA eZ12 hyZ13))))))))) ?_
   refine inn_s (v := .int .i64 rZ14.1) (ys' := rZ14.2.map AV.i) (z := .agg [.i yZ13.Id, .i yZ13.Class, .i yZ13.Work.Start, .lst .u 1 (rZ14.2.map AV.i), .i yZ13.WorkBlock.First, .i yZ13.WorkBlock.Count, .i yZ13.Spare.Start, .lst .u 1 (yZ13.Spare.Fibers.map AV.i), .i yZ13.SpareBlock.First, .i yZ13.SpareBlock.Count]) (by simp only [VS1, VS2, VS3, VS4, VS5, VS6, VT1, VT2, finM_ret, finM_nrm, decide_true, decide_false, List.nodup_nil, List.nodup_cons, oks_p, oks_m, oks_h, ne_eq, not_false_eq_true, Int.reduceEq, Int.reduceNe, true_and, false_and, Nat.reduceSub, Nat.reduceMul, ↓reduceIte, reduceCtorEq, Nat.reduceEqDiff, Nat.reduceAdd, Nat.reduceLeDiff, Int.reduceLE, cZ2, hkZ3a, hkZ3b, hyZ4, eZ6, hyZ7, eZ9, hyZ10, eZ12, hyZ13]; exact w_by _ _ hrZ14) (by simp [AV.flat, VT1, VT2]) (by simp [fz_mk, fz_sc, fz_lsto, fz_agg, fz_tup, fz_fn, fz_sl, fz_pt, fz_top, fzL_nil, fzL_cons, ou_sc, ou_lstu, ou_lsto, ou_agg, ouL_nil, ouL_cons, rfz_var, rfz_arr, rfz_dead, fzL_mi, fzL_mb, fzL_mz, fzL_m8, fzL_m64, ouL_m8, ouL_m64, ouL_mi, ouL_mb, ouL_mz, VZ1]) (by simp [VS1, VS2, VS3, VS4, VS5, VS6, VT1, VT2]) (by simp [AV.flat, VT1, VT2]) rfl ?_
   refine ZG ?_
   obtain ⟨yZ17, hyZ17, h⟩ := bind_s h
   obtain ⟨lZ18, hlZ18, h⟩ := bnd_s h
   have eZ19 : (lZ15.map (e_TService .u)).set (Int.toNat sZ1.2.1) (.agg [.i yZ17.Id, .i yZ17.Class, .i yZ17.Work.Start, .lst .u 1 (yZ17.Work.Fibers.map AV.i), .i rZ14.1, .i yZ17.WorkBlock.Count, .i yZ17.Spare.Start, .lst .u 1 (yZ17.Spare.Fibers.map AV.i), .i yZ17.SpareBlock.First, .i yZ17.SpareBlock.Count]) = lZ18.map (e_TService .u) := by rw [← hlZ18, List.map_set]; rfl
   obtain ⟨yZ20, hyZ20, h⟩ := bind_s h
   obtain ⟨lZ21, hlZ21, h⟩ := bnd_s h
   have eZ22 : (lZ18.map (e_TService .u)).set (Int.toNat sZ1.2.1) (.agg [.i yZ20.Id, .i yZ20.Class, .i yZ20.Work.Start, .lst .u 1 (yZ20.Work.Fibers.map AV.i), .i yZ20.WorkBlock.First, .i (IntKind.wrap .i64 (rZ14.1 + 1)), .i yZ20.Spare.Start, .lst .u 1 (yZ20.Spare.Fibers.map AV.i), .i yZ20.SpareBlock.First, .i yZ20.SpareBlock.Count]) = lZ21.map (e_TService .u) := by rw [← hlZ21, List.map_set]; rfl
   obtain ⟨yZ23, hyZ23, h⟩ := bind_s h
   obtain ⟨lZ24, hlZ24, h⟩ := bnd_s h
   have eZ25 : (lZ21.map (e_TService .u)).set (Int.toNat sZ1.2.1) (.agg [.i yZ23.Id, .i yZ23.Class, .i yZ23.Work.Start, .lst .u 1 (yZ23.Work.Fibers.map AV.i), .i yZ23.WorkBlock.First, .i yZ23.WorkBlock.Count, .i (IntKind.wrap .i64 ((IntKind.wrap .i64 (rZ14.1 + 1)) + 1)), .lst .u 1 (yZ23.Spare.Fibers.map AV.i), .i yZ23.SpareBlock.First, .i yZ23.SpareBlock.Count]) = lZ24.map (e_TService .u) := by rw [← hlZ24, List.map_set]; rfl
   obtain ⟨yZ26, hyZ26, h⟩ := bind_s h
   obtain ⟨rZ27, hrZ27, h⟩ := bind_s h
   obtain ⟨lZ28, hlZ28, h⟩ := bnd_s h
   have eZ29 : (lZ24.map (e_TService .u)).set (Int.toNat sZ1.2.1) (.agg [.i yZ26.Id, .i yZ26.Class, .i yZ26.Work.Start, .lst .u 1 (yZ26.Work.Fibers.map AV.i), .i yZ26.WorkBlock.First, .i yZ26.WorkBlock.Count, .i yZ26.Spare.Start, .lst .u 1 (rZ27.2.map AV.i), .i yZ26.SpareBlock.First, .i yZ26.SpareBlock.Count]) = lZ28.map (e_TService .u) := by rw [← hlZ28, List.map_set]; rfl
   refine ZF (ZA cZ2 (ZA hkZ3a (ZA hkZ3b (ZA hyZ4 (ZA eZ6 (ZA hyZ7 (ZA eZ9 (ZA hyZ10 (ZA eZ12 (ZA hyZ13 (ZA eZ16 (ZA hyZ17 (ZA eZ19 (ZA hyZ20 (ZA eZ22 (ZA hyZ23 (ZA eZ25 hyZ26))))))))))))))))) ?_
   refine inn_s (v := .int .i64 rZ27.1) (ys' := rZ27.2.map AV.i) (z := .agg [.i yZ26.Id, .i yZ26.Class, .i yZ26.Work.Start, .lst .u 1 (yZ26.Work.Fibers.map AV.i), .i yZ26.WorkBlock.First, .i yZ26.WorkBlock.Count, .i yZ26.Spare.Start, .lst .u 1 (rZ27.2.map AV.i), .i yZ26.SpareBlock.First, .i yZ26.SpareBlock.Count]) (by simp only [VS1, VS2, VS3, VS4, VS5, VS6, VT1, VT2, finM_ret, finM_nrm, decide_true, decide_false, List.nodup_nil, List.nodup_cons, oks_p, oks_m, oks_h, ne_eq, not_false_eq_true, Int.reduceEq, Int.reduceNe, true_and, false_and, Nat.reduceSub, Nat.reduceMul, ↓reduceIte, reduceCtorEq, Nat.reduceEqDiff, Nat.reduceAdd, Nat.reduceLeDiff, Int.reduceLE, cZ2, hkZ3a, hkZ3b, hyZ4, eZ6, hyZ7, eZ9, hyZ10, eZ12, hyZ13, eZ16, hyZ17, eZ19, hyZ20, eZ22, hyZ23, eZ25, hyZ26]; exact w_by _ _ hrZ27) (by simp [AV.flat, VT1, VT2]) (by simp [fz_mk, fz_sc, fz_lsto, fz_agg, fz_tup, fz_fn, fz_sl, fz_pt, fz_top, fzL_nil, fzL_cons, ou_sc, ou_lstu, ou_lsto, ou_agg, ouL_nil, ouL_cons, rfz_var, rfz_arr, rfz_dead, fzL_mi, fzL_mb, fzL_mz, fzL_m8, fzL_m64, ouL_m8, ouL_m64, ouL_mi, ouL_mb, ouL_mz, VZ1]) (by simp [VS1, VS2, VS3, VS4, VS5, VS6, VT1, VT2]) (by simp [AV.flat, VT1, VT2]) rfl ?_
   refine ZG ?_
   obtain ⟨yZ30, hyZ30, h⟩ := bind_s h
   obtain ⟨lZ31, hlZ31, h⟩ := bnd_s h
   have eZ32 : (lZ28.map (e_TService .u)).set (Int.toNat sZ1.2.1) (.agg [.i yZ30.Id, .i yZ30.Class, .i yZ30.Work.Start, .lst .u 1 (yZ30.Work.Fibers.map AV.i), .i yZ30.WorkBlock.First, .i yZ30.WorkBlock.Count, .i yZ30.Spare.Start, .lst .u 1 (yZ30.Spare.Fibers.map AV.i), .i rZ27.1, .i yZ30.SpareBlock.Count]) = lZ31.map (e_TService .u) := by rw [← hlZ31, List.map_set]; rfl
   obtain ⟨yZ33, hyZ33, h⟩ := bind_s h
   obtain ⟨lZ34, hlZ34, h⟩ := bnd_s h
   have eZ35 : (lZ31.map (e_TService .u)).set (Int.toNat sZ1.2.1) (.agg [.i yZ33.Id, .i yZ33.Class, .i yZ33.Work.Start, .lst .u 1 (yZ33.Work.Fibers.map AV.i), .i yZ33.WorkBlock.First, .i yZ33.WorkBlock.Count, .i yZ33.Spare.Start, .lst .u 1 (yZ33.Spare.Fibers.map AV.i), .i yZ33.SpareBlock.First, .i (IntKind.wrap .i64 (rZ27.1 + 1))]) = lZ34.map (e_TService .u) := by rw [← hlZ34, List.map_set]; rfl
   cases h
   exact ZL (ZA cZ2 (ZA hkZ3a (ZA hkZ3b (ZA hyZ4 (ZA eZ6 (ZA hyZ7 (ZA eZ9 (ZA hyZ10 (ZA eZ12 (ZA hyZ13 (ZA eZ16 (ZA hyZ17 (ZA eZ19 (ZA hyZ20 (ZA eZ22 (ZA hyZ23 (ZA eZ25 (ZA hyZ26 (ZA eZ29 (ZA hyZ30 (ZA eZ32 (ZA hyZ33 eZ35)))))))))))))))))))))) (ZA S_br.eq_1 (ZA SX_br.eq_1 (ZA hlZ5.symm (ZA hlZ8.symm (ZA hlZ11.symm (ZA hlZ15.symm (ZA hlZ18.symm (ZA hlZ21.symm (ZA hlZ24.symm (ZA hlZ28.symm (ZA hlZ31.symm hlZ34.symm)))))))))))
 · cases h
   exact ZL cZ2 (ZA S_br.eq_1 SX_br.eq_1)
theorem w_dq (aaZ0 : Int) (abZ0 : List TService) {r : Int × List TService} (h : M_dq aaZ0 abZ0 = some r) : OkH Tryz.prog 40 [.sl 1000000000 0 abZ0.length, .i aaZ0] [(1000000000, .arr 10 (abZ0.map (e_TService .u)))] ((fun (r : Int × List TService) => .i r.1) r) ((fun (r : Int × List TService) => [(1000000000, .arr 10 (r.2.map (e_TService .u)))]) r) := by
 refine okH_of_body (lr := [1000000000]) hmix m40M1 rfl ?_
 unfold M_dq at h
 simp only [ZC, A40M1, V40M1]
 obtain ⟨oZ36, hoZ36, h⟩ := bind_s h
 try refine ZF trivial ?_
 refine join_rule0 (blk_rule0 (loop_rule (w_br) hoZ36 ?_)) ?_
 · exact ZK (ZA S_br.eq_1 SX_br.eq_1)
 · simp only [ZC, SX_br, A40M1R2]
   cases h
   exact ZL trivial V40M1.eq_1
def S_bs (aZ0 : List Int) (v : Int × Int) : St := ⟨[(0, .lst .o 1 (aZ0.map AV.i)), (1, .i v.1), (5, .i v.2)], []⟩
def SX_bs (v : Int) : St := ⟨[(1, .i v)], []⟩
theorem w_bs (aZ0 : List Int) (sZ1 : Int × Int) (o : (Int × Int) ⊕ (Int ⊕ Int)) (h : M_bs aZ0 sZ1 = some o) : AWP (OkS Tryz.prog) A42L1 (qL [0, 1, 5] [] (S_bs aZ0) (qS (qX 0 [1] [] (SX_bs)) (qR V42 (fun r => .i r))) o) (S_bs aZ0 sZ1) := by
 unfold M_bs at h
 simp only [ZC, S_bs, A42L1]
 obtain ⟨cZ2, h⟩ | ⟨cZ2, h⟩ := cond_s h
 · obtain ⟨yZ3, hyZ3, h⟩ := bind_s h
   obtain ⟨hyZ3a, hyZ3b⟩ := geti_s hyZ3
   obtain ⟨cZ4, h⟩ | ⟨cZ4, h⟩ := cond_s h
   · cases h
     exact ZL (ZA cZ2 (ZA hyZ3a (ZA hyZ3b cZ4))) V42.eq_1
   · cases h
     exact ZL (ZA cZ2 (ZA hyZ3a (ZA hyZ3b cZ4))) (ZA S_bs.eq_1 SX_bs.eq_1)
 · cases h
   exact ZL cZ2 (ZA S_bs.eq_1 SX_bs.eq_1)
theorem w_dk (aZ0 : List Int) (kZ0 : Int) {r : Int} (h : M_dk aZ0 kZ0 = some r) : Ok Tryz.prog 42 [.lst .o 1 (aZ0.map AV.i), .i kZ0] ((fun r => .i r) r) := by
 refine ok_of_body hmix m42 rfl ?_
 unfold M_dk at h
 simp only [ZC, A42, V42, body_eq]
 obtain ⟨oZ5, hoZ5, h⟩ := bind_s h
 try refine ZF trivial ?_
 refine join_rule (o := oZ5) (blk_rule sideR (loop_rule (w_bs aZ0) hoZ5 ?_)) (fun vZ6 hv => ?_) (fun xZ7 hv e τ hne hq => ?_)
 · exact ZK (ZA S_bs.eq_1 SX_bs.eq_1)
 · subst hv
   simp only [] at h
   simp only [ZC, SX_bs, A42R2]
   cases h
   exact ZL trivial V42.eq_1
 · subst hv
   simp only [] at h
   obtain ⟨rfl, qZ8⟩ := hq
   cases h
   exact qZ8
theorem w_gg (aNZ0 : TNetwork) (aListZ0 : List TService) (aRatesZ0 : List Int) (aGroupsZ0 : List Int) {r : Bool} (h : M_gg aNZ0 aListZ0 aRatesZ0 aGroupsZ0 = some r) : Ok Tryz.prog 5 [.agg [.lst .o 1 (aNZ0.Nodes.map AV.z), .lst .o 4 (aNZ0.Fibers.map (e_TFiber .o))], .lst .o 10 (aListZ0.map (e_TService .o)), .lst .o 1 (aRatesZ0.map AV.i), .lst .o 1 (aGroupsZ0.map AV.i)] ((fun r => .b r) r) := by
 refine ok_of_body hmix m5 rfl ?_
 unfold M_gg at h
 simp only [ZC, A5, V5, body_eq]
 obtain ⟨cZ1, h⟩ | ⟨cZ1, h⟩ := cond_s h
 · cases h
   exact ZL cZ1 V5.eq_1
 · obtain ⟨cZ2, h⟩ | ⟨cZ2, h⟩ := cond_s h
   · cases h
     exact ZL (ZA cZ1 cZ2) V5.eq_1
   · obtain ⟨rZ3, hrZ3, h⟩ := bind_s h
     refine ZF (ZA cZ1 cZ2) ?_
     refine ZS (ZA cZ1 cZ2) (w_dt _ _ hrZ3) ?_
     refine ZG ?_
     obtain ⟨cZ4, h⟩ | ⟨cZ4, h⟩ := cond_s h
     · cases h
       exact ZL (ZA cZ1 (ZA cZ2 cZ4)) V5.eq_1
     · obtain ⟨rZ5, hrZ5, h⟩ := bind_s h
       refine ZF (ZA cZ1 (ZA cZ2 cZ4)) ?_
       refine ZS (ZA cZ1 (ZA cZ2 cZ4)) (w_dw _ _ hrZ5) ?_
       refine ZG ?_
       obtain ⟨cZ6, h⟩ | ⟨cZ6, h⟩ := cond_s h
       · cases h
         exact ZL (ZA cZ1 (ZA cZ2 (ZA cZ4 cZ6))) V5.eq_1
       · obtain ⟨rZ7, hrZ7, h⟩ := bind_s h
         refine ZF (ZA cZ1 (ZA cZ2 (ZA cZ4 cZ6))) ?_
         refine ZU (ZA cZ1 (ZA cZ2 (ZA cZ4 cZ6))) (w_ca _ hrZ7) ?_
         refine ZG ?_
         obtain ⟨rZ8, hrZ8, h⟩ := bind_s h
         refine ZF (ZA cZ1 (ZA cZ2 (ZA cZ4 cZ6))) ?_
         refine ZU (ZA cZ1 (ZA cZ2 (ZA cZ4 cZ6))) (w_cb _ hrZ8) ?_
         refine ZG ?_
         obtain ⟨rZ9, hrZ9, h⟩ := bind_s h
         refine ZF (ZA cZ1 (ZA cZ2 (ZA cZ4 cZ6))) ?_
         refine ZU (ZA cZ1 (ZA cZ2 (ZA cZ4 cZ6))) (w_l _ hrZ9) ?_
         refine ZG ?_
         obtain ⟨rZ10, hrZ10, h⟩ := bind_s h
         refine ZF (ZA cZ1 (ZA cZ2 (ZA cZ4 cZ6))) ?_
         refine ZU (ZA cZ1 (ZA cZ2 (ZA cZ4 cZ6))) (w_l _ hrZ10) ?_
         refine ZG ?_
         obtain ⟨rZ11, hrZ11, h⟩ := bind_s h
         refine ZF (ZA cZ1 (ZA cZ2 (ZA cZ4 cZ6))) ?_
         refine ZU (ZA cZ1 (ZA cZ2 (ZA cZ4 cZ6))) (w_eo _ _ _ _ hrZ11) ?_
         refine ZG ?_
         obtain ⟨rZ12, hrZ12, h⟩ := bind_s h
         refine ZF (ZA cZ1 (ZA cZ2 (ZA cZ4 cZ6))) ?_
         refine ZU (ZA cZ1 (ZA cZ2 (ZA cZ4 cZ6))) (w_ca _ hrZ12) ?_
         refine ZG ?_
         obtain ⟨rZ13, hrZ13, h⟩ := bind_s h
         refine ZF (ZA cZ1 (ZA cZ2 (ZA cZ4 cZ6))) ?_
         refine ZU (ZA cZ1 (ZA cZ2 (ZA cZ4 cZ6))) (w_cb _ hrZ13) ?_
         refine ZG ?_
         obtain ⟨rZ14, hrZ14, h⟩ := bind_s h
         refine ZF (ZA cZ1 (ZA cZ2 (ZA cZ4 cZ6))) ?_
         refine ZU (ZA cZ1 (ZA cZ2 (ZA cZ4 cZ6))) (w_l _ hrZ14) ?_
         refine ZG ?_
         obtain ⟨rZ15, hrZ15, h⟩ := bind_s h
         refine ZF (ZA cZ1 (ZA cZ2 (ZA cZ4 cZ6))) ?_
         refine ZU (ZA cZ1 (ZA cZ2 (ZA cZ4 cZ6))) (w_l _ hrZ15) ?_
         refine ZG ?_
         obtain ⟨rZ16, hrZ16, h⟩ := bind_s h
         refine ZF (ZA cZ1 (ZA cZ2 (ZA cZ4 cZ6))) ?_
         refine ZU (ZA cZ1 (ZA cZ2 (ZA cZ4 cZ6))) (w_dg _ _ _ _ hrZ16) ?_
         refine ZG ?_
         obtain ⟨oZ19, hoZ19, h⟩ := bind_s h
         try refine ZF (ZA cZ1 (ZA cZ2 (ZA cZ4 cZ6))) ?_
         refine join_rule0 (sh := (fun v => ⟨[(1, .lst .o 10 (aListZ0.map (e_TService .o))), (2, .lst .o 1 (aRatesZ0.map AV.i)), (3, .lst .o 1 (aGroupsZ0.map AV.i)), (4, .pt 4 0 0), (10, .sl 10 0 rZ11.1.length), (11, .b rZ11.2), (12, .pt 12 0 0), (13, .sl 13 0 rZ13.length), (14, .sl 14 0 rZ14.length), (15, .sl 15 0 rZ15.length), (16, .sl 16 0 rZ16.1.length), (17, .b rZ16.2), (75, .b v)], [(4, .var (.agg [.lst .o 1 (aNZ0.Nodes.map AV.z), .lst .o 4 (aNZ0.Fibers.map (e_TFiber .o))])), (10, .arr 1 (rZ11.1.map AV.i)), (12, .var (.agg [.sl 52 0 rZ12.Nodes.length, .sl 1052 0 rZ12.Fibers.length])), (13, .arr 10 (rZ13.map (e_TService .u))), (14, .arr 1 (rZ14.map AV.i)), (15, .arr 1 (rZ15.map AV.i)), (16, .arr 1 (rZ16.1.map AV.i)), (52, .arr 1 (rZ12.Nodes.map AV.z)), (1052, .arr 4 (rZ12.Fibers.map (e_TFiber .u)))]⟩)) (s := oZ19) ?_ ?_
         · replace h := hoZ19
           obtain ⟨rZ17, hrZ17, h⟩ := bind_s h
           refine ZF (ZA cZ1 (ZA cZ2 (ZA cZ4 cZ6))) ?_
           refine ZS (ZA cZ1 (ZA cZ2 (ZA cZ4 cZ6))) (w_bu _ _ hrZ17) ?_
           refine ZG ?_
           obtain ⟨cZ18, h⟩ | ⟨cZ18, h⟩ := cond_s h
           · cases h
             exact ZL (ZA cZ1 (ZA cZ2 (ZA cZ4 (ZA cZ6 cZ18)))) trivial
           · cases h
             exact ZL (ZA cZ1 (ZA cZ2 (ZA cZ4 (ZA cZ6 cZ18)))) trivial
         · simp only [ZC, A5R1]
           obtain ⟨cZ20, h⟩ | ⟨cZ20, h⟩ := cond_s h
           · cases h
             exact ZL (ZA cZ1 (ZA cZ2 (ZA cZ4 (ZA cZ6 cZ20)))) V5.eq_1
           · obtain ⟨rZ21, hrZ21, h⟩ := bind_s h
             refine ZF (ZA cZ1 (ZA cZ2 (ZA cZ4 (ZA cZ6 cZ20)))) ?_
             refine ZU (ZA cZ1 (ZA cZ2 (ZA cZ4 (ZA cZ6 cZ20)))) (w_ca _ hrZ21) ?_
             refine ZG ?_
             obtain ⟨rZ22, hrZ22, h⟩ := bind_s h
             refine ZF (ZA cZ1 (ZA cZ2 (ZA cZ4 (ZA cZ6 cZ20)))) ?_
             refine ZS (ZA cZ1 (ZA cZ2 (ZA cZ4 (ZA cZ6 cZ20)))) (w_fr _ _ hrZ22) ?_
             refine ZG ?_
             obtain ⟨cZ23, h⟩ | ⟨cZ23, h⟩ := cond_s h
             · cases h
               exact ZL (ZA cZ1 (ZA cZ2 (ZA cZ4 (ZA cZ6 (ZA cZ20 cZ23))))) V5.eq_1
             · obtain ⟨rZ24, hrZ24, h⟩ := bind_s h
               refine ZF (ZA cZ1 (ZA cZ2 (ZA cZ4 (ZA cZ6 (ZA cZ20 cZ23))))) ?_
               refine ZU (ZA cZ1 (ZA cZ2 (ZA cZ4 (ZA cZ6 (ZA cZ20 cZ23))))) (w_cb _ hrZ24) ?_
               refine ZG ?_
               obtain ⟨rZ25, hrZ25, h⟩ := bind_s h
               refine ZF (ZA cZ1 (ZA cZ2 (ZA cZ4 (ZA cZ6 (ZA cZ20 cZ23))))) ?_
               refine ZS (ZA cZ1 (ZA cZ2 (ZA cZ4 (ZA cZ6 (ZA cZ20 cZ23))))) (w_fs _ _ hrZ25) ?_
               refine ZG ?_
               obtain ⟨cZ26, h⟩ | ⟨cZ26, h⟩ := cond_s h
               · cases h
                 exact ZL (ZA cZ1 (ZA cZ2 (ZA cZ4 (ZA cZ6 (ZA cZ20 (ZA cZ23 cZ26)))))) V5.eq_1
               · obtain ⟨rZ27, hrZ27, h⟩ := bind_s h
                 refine ZF (ZA cZ1 (ZA cZ2 (ZA cZ4 (ZA cZ6 (ZA cZ20 (ZA cZ23 cZ26)))))) ?_
                 refine ZU (ZA cZ1 (ZA cZ2 (ZA cZ4 (ZA cZ6 (ZA cZ20 (ZA cZ23 cZ26)))))) (w_l _ hrZ27) ?_
                 refine ZG ?_
                 obtain ⟨rZ28, hrZ28, h⟩ := bind_s h
                 refine ZF (ZA cZ1 (ZA cZ2 (ZA cZ4 (ZA cZ6 (ZA cZ20 (ZA cZ23 cZ26)))))) ?_
                 refine ZS (ZA cZ1 (ZA cZ2 (ZA cZ4 (ZA cZ6 (ZA cZ20 (ZA cZ23 cZ26)))))) (w_bu _ _ hrZ28) ?_
                 refine ZG ?_
                 obtain ⟨cZ29, h⟩ | ⟨cZ29, h⟩ := cond_s h
                 · cases h
                   exact ZL (ZA cZ1 (ZA cZ2 (ZA cZ4 (ZA cZ6 (ZA cZ20 (ZA cZ23 (ZA cZ26 cZ29))))))) V5.eq_1
                 · obtain ⟨rZ30, hrZ30, h⟩ := bind_s h
                   refine ZF (ZA cZ1 (ZA cZ2 (ZA cZ4 (ZA cZ6 (ZA cZ20 (ZA cZ23 (ZA cZ26 cZ29))))))) ?_
                   refine ZU (ZA cZ1 (ZA cZ2 (ZA cZ4 (ZA cZ6 (ZA cZ20 (ZA cZ23 (ZA cZ26 cZ29))))))) (w_l _ hrZ30) ?_
                   refine ZG ?_
                   obtain ⟨rZ31, hrZ31, h⟩ := bind_s h
                   refine ZF (ZA cZ1 (ZA cZ2 (ZA cZ4 (ZA cZ6 (ZA cZ20 (ZA cZ23 (ZA cZ26 cZ29))))))) ?_
                   refine ZS (ZA cZ1 (ZA cZ2 (ZA cZ4 (ZA cZ6 (ZA cZ20 (ZA cZ23 (ZA cZ26 cZ29))))))) (w_bu _ _ hrZ31) ?_
                   refine ZG ?_
                   obtain ⟨cZ32, h⟩ | ⟨cZ32, h⟩ := cond_s h
                   · cases h
                     exact ZL (ZA cZ1 (ZA cZ2 (ZA cZ4 (ZA cZ6 (ZA cZ20 (ZA cZ23 (ZA cZ26 (ZA cZ29 cZ32)))))))) V5.eq_1
                   · obtain ⟨rZ33, hrZ33, h⟩ := bind_s h
                     refine ZF (ZA cZ1 (ZA cZ2 (ZA cZ4 (ZA cZ6 (ZA cZ20 (ZA cZ23 (ZA cZ26 (ZA cZ29 cZ32)))))))) ?_
                     refine ZW (ZA cZ1 (ZA cZ2 (ZA cZ4 (ZA cZ6 (ZA cZ20 (ZA cZ23 (ZA cZ26 (ZA cZ29 cZ32)))))))) (w_fv _ _ _ hrZ33) (h2 := by first | exact nm_ok [1000000000, 1000000001] rfl (by decide +kernel) | exact nm_ok2 [1000000000, 1000000001] [] rfl (by decide +kernel) ZQ | exact ZQ) (hk := ?_)
                     refine ZG ?_
                     obtain ⟨rZ34, hrZ34, h⟩ := bind_s h
                     refine ZF (ZA cZ1 (ZA cZ2 (ZA cZ4 (ZA cZ6 (ZA cZ20 (ZA cZ23 (ZA cZ26 (ZA cZ29 cZ32)))))))) ?_
                     refine ⟨by simp [fz_mk, fz_sc, fz_lsto, fz_agg, fz_tup, fz_fn, fz_sl, fz_pt, fz_top, fzL_nil, fzL_cons, ou_sc, ou_lstu, ou_lsto, ou_agg, ouL_nil, ouL_cons, rfz_var, rfz_arr, rfz_dead, fzL_mi, fzL_mb, fzL_mz, fzL_m8, fzL_m64, ouL_m8, ouL_m64, ouL_mi, ouL_mb, ouL_mz, VZ1], call_m (ok := ⟨_, _, _⟩) (by simp only [VS1, VS2, VS3, VS4, VS5, VS6, VT1, VT2, finM_ret, finM_nrm, decide_true, decide_false, List.nodup_nil, List.nodup_cons, oks_p, oks_m, oks_h, ne_eq, not_false_eq_true, Int.reduceEq, Int.reduceNe, true_and, false_and, Nat.reduceSub, Nat.reduceMul, ↓reduceIte, reduceCtorEq, Nat.reduceEqDiff, Nat.reduceAdd, Nat.reduceLeDiff, Int.reduceLE, cZ1, cZ2, cZ4, cZ6, cZ20, cZ23, cZ26, cZ29, cZ32]; first | exact w_dq _ _ hrZ34 | (have hw := w_dq _ _ hrZ34; simp only [VS1, VS2, VS3, VS4, VS5, VS6, VT1, VT2, finM_ret, finM_nrm, decide_true, decide_false, List.nodup_nil, List.nodup_cons, oks_p, oks_m, oks_h, ne_eq, not_false_eq_true, Int.reduceEq, Int.reduceNe, true_and, false_and, Nat.reduceSub, Nat.reduceMul, ↓reduceIte, reduceCtorEq, Nat.reduceEqDiff, Nat.reduceAdd, Nat.reduceLeDiff, Int.reduceLE, cZ1, cZ2, cZ4, cZ6, cZ20, cZ23, cZ26, cZ29, cZ32] at hw; exact hw)) (by simp [VS1, VS2, VS3, VS4, VS5, VS6, VT1, VT2]) (by first | exact nm_ok [1000000000] rfl (by decide +kernel) | exact nm_ok2 [1000000000] [] rfl (by decide +kernel) (by simp [VS1, VS2, VS3, VS4, VS5, VS6, VT1, VT2]) | simp [VS1, VS2, VS3, VS4, VS5, VS6, VT1, VT2]) ?_⟩
                     refine ZG ?_
                     obtain ⟨rZ35, hrZ35, h⟩ := bind_s h
                     refine ZF (ZA cZ1 (ZA cZ2 (ZA cZ4 (ZA cZ6 (ZA cZ20 (ZA cZ23 (ZA cZ26 (ZA cZ29 cZ32)))))))) ?_
                     refine ZW (ZA cZ1 (ZA cZ2 (ZA cZ4 (ZA cZ6 (ZA cZ20 (ZA cZ23 (ZA cZ26 (ZA cZ29 cZ32)))))))) (w_by _ _ hrZ35) (h2 := by first | exact nm_ok [1000000000] rfl (by decide +kernel) | exact nm_ok2 [1000000000] [] rfl (by decide +kernel) ZQ | exact ZQ) (hk := ?_)
                     refine ZG ?_
                     obtain ⟨rZ36, hrZ36, h⟩ := bind_s h
                     refine ZF (ZA cZ1 (ZA cZ2 (ZA cZ4 (ZA cZ6 (ZA cZ20 (ZA cZ23 (ZA cZ26 (ZA cZ29 cZ32)))))))) ?_
                     refine ZW (ZA cZ1 (ZA cZ2 (ZA cZ4 (ZA cZ6 (ZA cZ20 (ZA cZ23 (ZA cZ26 (ZA cZ29 cZ32)))))))) (w_by _ _ hrZ36) (h2 := by first | exact nm_ok [1000000000] rfl (by decide +kernel) | exact nm_ok2 [1000000000] [] rfl (by decide +kernel) ZQ | exact ZQ) (hk := ?_)
                     refine ZG ?_
                     obtain ⟨oZ40, hoZ40, h⟩ := bind_s h
                     try refine ZF (ZA cZ1 (ZA cZ2 (ZA cZ4 (ZA cZ6 (ZA cZ20 (ZA cZ23 (ZA cZ26 (ZA cZ29 cZ32)))))))) ?_
                     refine join_rule0 (sh := (fun v => ⟨[(1, .lst .o 10 (aListZ0.map (e_TService .o))), (2, .lst .o 1 (aRatesZ0.map AV.i)), (3, .lst .o 1 (aGroupsZ0.map AV.i)), (4, .pt 4 0 0), (10, .sl 10 0 rZ11.1.length), (11, .b rZ11.2), (16, .sl 16 0 rZ16.1.length), (120, .b v)], [(4, .var (.agg [.lst .o 1 (aNZ0.Nodes.map AV.z), .lst .o 4 (aNZ0.Fibers.map (e_TFiber .o))])), (10, .arr 1 (rZ11.1.map AV.i)), (16, .arr 1 (rZ16.1.map AV.i))]⟩)) (s := oZ40) ?_ ?_
                     · replace h := hoZ40
                       obtain ⟨cZ37, h⟩ | ⟨cZ37, h⟩ := cond_s h
                       · cases h
                         exact ZL (ZA cZ1 (ZA cZ2 (ZA cZ4 (ZA cZ6 (ZA cZ20 (ZA cZ23 (ZA cZ26 (ZA cZ29 (ZA cZ32 cZ37))))))))) trivial
                       · obtain ⟨rZ38, hrZ38, h⟩ := bind_s h
                         refine ZF (ZA cZ1 (ZA cZ2 (ZA cZ4 (ZA cZ6 (ZA cZ20 (ZA cZ23 (ZA cZ26 (ZA cZ29 (ZA cZ32 cZ37))))))))) ?_
                         refine ZS (ZA cZ1 (ZA cZ2 (ZA cZ4 (ZA cZ6 (ZA cZ20 (ZA cZ23 (ZA cZ26 (ZA cZ29 (ZA cZ32 cZ37))))))))) (w_bu _ _ hrZ38) ?_
                         refine ZG ?_
                         obtain ⟨cZ39, h⟩ | ⟨cZ39, h⟩ := cond_s h
                         · cases h
                           exact ZL (ZA cZ1 (ZA cZ2 (ZA cZ4 (ZA cZ6 (ZA cZ20 (ZA cZ23 (ZA cZ26 (ZA cZ29 (ZA cZ32 (ZA cZ37 cZ39)))))))))) trivial
                         · cases h
                           exact ZL (ZA cZ1 (ZA cZ2 (ZA cZ4 (ZA cZ6 (ZA cZ20 (ZA cZ23 (ZA cZ26 (ZA cZ29 (ZA cZ32 (ZA cZ37 cZ39)))))))))) trivial
                     · simp only [ZC, A5R2]
                       obtain ⟨cZ41, h⟩ | ⟨cZ41, h⟩ := cond_s h
                       · cases h
                         exact ZL (ZA cZ1 (ZA cZ2 (ZA cZ4 (ZA cZ6 (ZA cZ20 (ZA cZ23 (ZA cZ26 (ZA cZ29 (ZA cZ32 cZ41))))))))) V5.eq_1
                       · obtain ⟨rZ42, hrZ42, h⟩ := bind_s h
                         refine ZF (ZA cZ1 (ZA cZ2 (ZA cZ4 (ZA cZ6 (ZA cZ20 (ZA cZ23 (ZA cZ26 (ZA cZ29 (ZA cZ32 cZ41))))))))) ?_
                         refine ZW (ZA cZ1 (ZA cZ2 (ZA cZ4 (ZA cZ6 (ZA cZ20 (ZA cZ23 (ZA cZ26 (ZA cZ29 (ZA cZ32 cZ41))))))))) (w_by _ _ hrZ42) (h2 := by first | exact nm_ok [1000000000] rfl (by decide +kernel) | exact nm_ok2 [1000000000] [] rfl (by decide +kernel) ZQ | exact ZQ) (hk := ?_)
                         refine ZG ?_
                         obtain ⟨lZ43, hlZ43, h⟩ := bnd_s h
                         have eZ44 : sub (rZ42.2.map AV.i) 0 rZ16.1.length = lZ43.map AV.i := by rw [sub_mapT, hlZ43]
                         obtain ⟨rZ45, hrZ45, h⟩ := bind_s h
                         refine ZF (ZA cZ1 (ZA cZ2 (ZA cZ4 (ZA cZ6 (ZA cZ20 (ZA cZ23 (ZA cZ26 (ZA cZ29 (ZA cZ32 (ZA cZ41 eZ44)))))))))) ?_
                         refine ZS (ZA cZ1 (ZA cZ2 (ZA cZ4 (ZA cZ6 (ZA cZ20 (ZA cZ23 (ZA cZ26 (ZA cZ29 (ZA cZ32 (ZA cZ41 eZ44)))))))))) (w_dk _ _ hrZ45) ?_
                         refine ZG ?_
                         obtain ⟨cZ46, h⟩ | ⟨cZ46, h⟩ := cond_s h
                         · cases h
                           exact ZL (ZA cZ1 (ZA cZ2 (ZA cZ4 (ZA cZ6 (ZA cZ20 (ZA cZ23 (ZA cZ26 (ZA cZ29 (ZA cZ32 (ZA cZ41 (ZA eZ44 cZ46))))))))))) V5.eq_1
                         · obtain ⟨cZ47, h⟩ | ⟨cZ47, h⟩ := cond_s h
                           · cases h
                             exact ZL (ZA cZ1 (ZA cZ2 (ZA cZ4 (ZA cZ6 (ZA cZ20 (ZA cZ23 (ZA cZ26 (ZA cZ29 (ZA cZ32 (ZA cZ41 (ZA eZ44 (ZA cZ46 cZ47)))))))))))) V5.eq_1
                           · obtain ⟨rZ48, hrZ48, h⟩ := bind_s h
                             refine ZF (ZA cZ1 (ZA cZ2 (ZA cZ4 (ZA cZ6 (ZA cZ20 (ZA cZ23 (ZA cZ26 (ZA cZ29 (ZA cZ32 (ZA cZ41 (ZA eZ44 (ZA cZ46 cZ47)))))))))))) ?_
                             refine ZU (ZA cZ1 (ZA cZ2 (ZA cZ4 (ZA cZ6 (ZA cZ20 (ZA cZ23 (ZA cZ26 (ZA cZ29 (ZA cZ32 (ZA cZ41 (ZA eZ44 (ZA cZ46 cZ47)))))))))))) (w_ca _ hrZ48) ?_
                             refine ZG ?_
                             obtain ⟨rZ49, hrZ49, h⟩ := bind_s h
                             refine ZF (ZA cZ1 (ZA cZ2 (ZA cZ4 (ZA cZ6 (ZA cZ20 (ZA cZ23 (ZA cZ26 (ZA cZ29 (ZA cZ32 (ZA cZ41 (ZA eZ44 (ZA cZ46 cZ47)))))))))))) ?_
                             refine ZU (ZA cZ1 (ZA cZ2 (ZA cZ4 (ZA cZ6 (ZA cZ20 (ZA cZ23 (ZA cZ26 (ZA cZ29 (ZA cZ32 (ZA cZ41 (ZA eZ44 (ZA cZ46 cZ47)))))))))))) (w_cb _ hrZ49) ?_
                             refine ZG ?_
                             obtain ⟨rZ50, hrZ50, h⟩ := bind_s h
                             refine ZF (ZA cZ1 (ZA cZ2 (ZA cZ4 (ZA cZ6 (ZA cZ20 (ZA cZ23 (ZA cZ26 (ZA cZ29 (ZA cZ32 (ZA cZ41 (ZA eZ44 (ZA cZ46 cZ47)))))))))))) ?_
                             refine ZU (ZA cZ1 (ZA cZ2 (ZA cZ4 (ZA cZ6 (ZA cZ20 (ZA cZ23 (ZA cZ26 (ZA cZ29 (ZA cZ32 (ZA cZ41 (ZA eZ44 (ZA cZ46 cZ47)))))))))))) (w_l _ hrZ50) ?_
                             refine ZG ?_
                             obtain ⟨rZ51, hrZ51, h⟩ := bind_s h
                             refine ZF (ZA cZ1 (ZA cZ2 (ZA cZ4 (ZA cZ6 (ZA cZ20 (ZA cZ23 (ZA cZ26 (ZA cZ29 (ZA cZ32 (ZA cZ41 (ZA eZ44 (ZA cZ46 cZ47)))))))))))) ?_
                             refine ZU (ZA cZ1 (ZA cZ2 (ZA cZ4 (ZA cZ6 (ZA cZ20 (ZA cZ23 (ZA cZ26 (ZA cZ29 (ZA cZ32 (ZA cZ41 (ZA eZ44 (ZA cZ46 cZ47)))))))))))) (w_l _ hrZ51) ?_
                             refine ZG ?_
                             obtain ⟨rZ52, hrZ52, h⟩ := bind_s h
                             refine ZF (ZA cZ1 (ZA cZ2 (ZA cZ4 (ZA cZ6 (ZA cZ20 (ZA cZ23 (ZA cZ26 (ZA cZ29 (ZA cZ32 (ZA cZ41 (ZA eZ44 (ZA cZ46 cZ47)))))))))))) ?_
                             refine ZU (ZA cZ1 (ZA cZ2 (ZA cZ4 (ZA cZ6 (ZA cZ20 (ZA cZ23 (ZA cZ26 (ZA cZ29 (ZA cZ32 (ZA cZ41 (ZA eZ44 (ZA cZ46 cZ47)))))))))))) (w_dg _ _ _ _ hrZ52) ?_
                             refine ZG ?_
                             obtain ⟨oZ55, hoZ55, h⟩ := bind_s h
                             try refine ZF (ZA cZ1 (ZA cZ2 (ZA cZ4 (ZA cZ6 (ZA cZ20 (ZA cZ23 (ZA cZ26 (ZA cZ29 (ZA cZ32 (ZA cZ41 (ZA eZ44 (ZA cZ46 cZ47)))))))))))) ?_
                             refine join_rule0 (sh := (fun v => ⟨[(16, .sl 16 0 rZ16.1.length), (19, .i rZ42.1), (152, .b v)], [(16, .arr 1 (rZ42.2.map AV.i))]⟩)) (s := oZ55) ?_ ?_
                             · replace h := hoZ55
                               obtain ⟨rZ53, hrZ53, h⟩ := bind_s h
                               refine ZF (ZA cZ1 (ZA cZ2 (ZA cZ4 (ZA cZ6 (ZA cZ20 (ZA cZ23 (ZA cZ26 (ZA cZ29 (ZA cZ32 (ZA cZ41 (ZA eZ44 (ZA cZ46 cZ47)))))))))))) ?_
                               refine ZS (ZA cZ1 (ZA cZ2 (ZA cZ4 (ZA cZ6 (ZA cZ20 (ZA cZ23 (ZA cZ26 (ZA cZ29 (ZA cZ32 (ZA cZ41 (ZA eZ44 (ZA cZ46 cZ47)))))))))))) (w_bu _ _ hrZ53) ?_
                               refine ZG ?_
                               obtain ⟨cZ54, h⟩ | ⟨cZ54, h⟩ := cond_s h
                               · cases h
                                 exact ZL (ZA cZ1 (ZA cZ2 (ZA cZ4 (ZA cZ6 (ZA cZ20 (ZA cZ23 (ZA cZ26 (ZA cZ29 (ZA cZ32 (ZA cZ41 (ZA eZ44 (ZA cZ46 (ZA cZ47 cZ54))))))))))))) trivial
                               · cases h
                                 exact ZL (ZA cZ1 (ZA cZ2 (ZA cZ4 (ZA cZ6 (ZA cZ20 (ZA cZ23 (ZA cZ26 (ZA cZ29 (ZA cZ32 (ZA cZ41 (ZA eZ44 (ZA cZ46 (ZA cZ47 cZ54))))))))))))) trivial
                             · simp only [ZC, A5R3]
                               obtain ⟨cZ56, h⟩ | ⟨cZ56, h⟩ := cond_s h
                               · cases h
                                 exact ZL (ZA cZ1 (ZA cZ2 (ZA cZ4 (ZA cZ6 (ZA cZ20 (ZA cZ23 (ZA cZ26 (ZA cZ29 (ZA cZ32 (ZA cZ41 (ZA eZ44 (ZA cZ46 (ZA cZ47 cZ56))))))))))))) V5.eq_1
                               · obtain ⟨rZ57, hrZ57, h⟩ := bind_s h
                                 refine ZF (ZA cZ1 (ZA cZ2 (ZA cZ4 (ZA cZ6 (ZA cZ20 (ZA cZ23 (ZA cZ26 (ZA cZ29 (ZA cZ32 (ZA cZ41 (ZA eZ44 (ZA cZ46 (ZA cZ47 cZ56))))))))))))) ?_
                                 refine ZS (ZA cZ1 (ZA cZ2 (ZA cZ4 (ZA cZ6 (ZA cZ20 (ZA cZ23 (ZA cZ26 (ZA cZ29 (ZA cZ32 (ZA cZ41 (ZA eZ44 (ZA cZ46 (ZA cZ47 cZ56))))))))))))) (w_dk _ _ hrZ57) ?_
                                 refine ZG ?_
                                 obtain ⟨cZ58, h⟩ | ⟨cZ58, h⟩ := cond_s h
                                 · cases h
                                   exact ZL (ZA cZ1 (ZA cZ2 (ZA cZ4 (ZA cZ6 (ZA cZ20 (ZA cZ23 (ZA cZ26 (ZA cZ29 (ZA cZ32 (ZA cZ41 (ZA eZ44 (ZA cZ46 (ZA cZ47 (ZA cZ56 cZ58)))))))))))))) V5.eq_1
                                 · obtain ⟨cZ59, h⟩ | ⟨cZ59, h⟩ := cond_s h
                                   · cases h
                                     exact ZL (ZA cZ1 (ZA cZ2 (ZA cZ4 (ZA cZ6 (ZA cZ20 (ZA cZ23 (ZA cZ26 (ZA cZ29 (ZA cZ32 (ZA cZ41 (ZA eZ44 (ZA cZ46 (ZA cZ47 (ZA cZ56 (ZA cZ58 cZ59))))))))))))))) V5.eq_1
                                   · cases h
                                     exact ZL (ZA cZ1 (ZA cZ2 (ZA cZ4 (ZA cZ6 (ZA cZ20 (ZA cZ23 (ZA cZ26 (ZA cZ29 (ZA cZ32 (ZA cZ41 (ZA eZ44 (ZA cZ46 (ZA cZ47 (ZA cZ56 (ZA cZ58 cZ59))))))))))))))) V5.eq_1
end Vs

