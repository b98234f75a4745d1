/-
  Part of the proof that the law FnExactAllRings returns true at every input; no condition beside the row's own.
-/
import Derived.Test.YteilpiddonoikaaGa
set_option linter.defProp false
set_option linter.unusedSimpArgs false
set_option linter.unusedVariables false
set_option maxHeartbeats 1000000
set_option maxRecDepth 8000
namespace Vs
open Go Go.Proofs
attribute [local irreducible] AWP stOps eff awpC callA callM
theorem VT1:(∀ (f:Fl) (x:TFiber),e_TFiber f x=.agg [.i x.A,.i x.B,.i x.Length,.i x.Risk]) ∧
 (∀ (f:Fl) (x:TNetwork),e_TNetwork f x=.agg [.lst f 1 (x.Nodes.map AV.z),.lst f 4 (x.Fibers.map (e_TFiber f))]) ∧
 (∀ (f:Fl) (x:List Int),e_Li f x=.lst f 1 (x.map AV.i)) ∧
 (∀ (f:Fl) (x:Tl17Search),e_Tl17Search f x=.agg [.lst f 1 (x.n.Nodes.map AV.z),.lst f 4 (x.n.Fibers.map (e_TFiber f)),.lst f 1 (x.list.map (e_Li f))]) ∧
 (∀ (x:Value) (f:Nat) (cs:List AV),setPart (.sc x) 0 (.fn f cs)=some (.fn f cs)):=⟨fun _ _=>rfl,fun _ _=>rfl,fun _ _=>rfl,fun _ _=>rfl,fun _ _ _=>rfl⟩
theorem shape_e_Li (f:Fl) (x:List Int) (v:Value) (w:World) (S:Nat→Prop) (B:Nat) (fp:List Nat) (h:RepP w S B v (e_Li f x) fp) (_:v.cells.size=1):sh1 v:=shape_lst h
theorem VT2:(∀ (f:Fl) (x:TFiber),(e_TFiber f x).nrm=e_TFiber .o x) ∧
 (∀ (f:Fl) (xs:List TFiber),(xs.map (e_TFiber f)).map AV.nrm=xs.map (e_TFiber .o)) ∧
 (∀ (f:Fl) (x:TFiber),(e_TFiber f x).als=e_TFiber f.als x) ∧
 (∀ (f:Fl) (xs:List TFiber),(xs.map (e_TFiber f)).map AV.als=xs.map (e_TFiber f.als)) ∧
 (∀ (f:Fl),AV.als ∘ e_TFiber f=e_TFiber f.als) ∧
 (∀ (f:Fl) (x:TFiber),(e_TFiber f x).fix=e_TFiber f.fix x) ∧
 (∀ (f:Fl) (xs:List TFiber),(xs.map (e_TFiber f)).map AV.fix=xs.map (e_TFiber f.fix)) ∧
 (∀ (f:Fl) (x:TNetwork),(e_TNetwork f x).nrm=e_TNetwork .o x) ∧
 (∀ (f:Fl) (xs:List TNetwork),(xs.map (e_TNetwork f)).map AV.nrm=xs.map (e_TNetwork .o)) ∧
 (∀ (f:Fl) (x:TNetwork),(e_TNetwork f x).als=e_TNetwork f.als x) ∧
 (∀ (f:Fl) (xs:List TNetwork),(xs.map (e_TNetwork f)).map AV.als=xs.map (e_TNetwork f.als)) ∧
 (∀ (f:Fl),AV.als ∘ e_TNetwork f=e_TNetwork f.als) ∧
 (∀ (f:Fl) (x:TNetwork),(e_TNetwork f x).fix=e_TNetwork f.fix x) ∧
 (∀ (f:Fl) (xs:List TNetwork),(xs.map (e_TNetwork f)).map AV.fix=xs.map (e_TNetwork f.fix)) ∧
 (∀ (f:Fl) (x:List Int),(e_Li f x).nrm=e_Li .o x) ∧
 (∀ (f:Fl) (xs:List (List Int)),(xs.map (e_Li f)).map AV.nrm=xs.map (e_Li .o)) ∧
 (∀ (f:Fl) (x:List Int),(e_Li f x).als=e_Li f.als x) ∧
 (∀ (f:Fl) (xs:List (List Int)),(xs.map (e_Li f)).map AV.als=xs.map (e_Li f.als)) ∧
 (∀ (f:Fl),AV.als ∘ e_Li f=e_Li f.als) ∧
 (∀ (f:Fl) (x:List Int),(e_Li f x).fix=e_Li f.fix x) ∧
 (∀ (f:Fl) (xs:List (List Int)),(xs.map (e_Li f)).map AV.fix=xs.map (e_Li f.fix)) ∧
 (∀ (f:Fl) (x:Tl17Search),(e_Tl17Search f x).nrm=e_Tl17Search .o x) ∧
 (∀ (f:Fl) (xs:List Tl17Search),(xs.map (e_Tl17Search f)).map AV.nrm=xs.map (e_Tl17Search .o)) ∧
 (∀ (f:Fl) (x:Tl17Search),(e_Tl17Search f x).als=e_Tl17Search f.als x) ∧
 (∀ (f:Fl) (xs:List Tl17Search),(xs.map (e_Tl17Search f)).map AV.als=xs.map (e_Tl17Search f.als)) ∧
 (∀ (f:Fl),AV.als ∘ e_Tl17Search f=e_Tl17Search f.als) ∧
 (∀ (f:Fl) (x:Tl17Search),(e_Tl17Search f x).fix=e_Tl17Search f.fix x) ∧
 (∀ (f:Fl) (xs:List Tl17Search),(xs.map (e_Tl17Search f)).map AV.fix=xs.map (e_Tl17Search f.fix)) :=
 ⟨@e_TFiber_nrm,@e_TFiber_nrmm,@e_TFiber_als,@e_TFiber_alsm,@e_TFiber_alsc,@e_TFiber_fix,@e_TFiber_fixm,@e_TNetwork_nrm,@e_TNetwork_nrmm,@e_TNetwork_als,@e_TNetwork_alsm,@e_TNetwork_alsc,@e_TNetwork_fix,@e_TNetwork_fixm,@e_Li_nrm,@e_Li_nrmm,@e_Li_als,@e_Li_alsm,@e_Li_alsc,@e_Li_fix,@e_Li_fixm,@e_Tl17Search_nrm,@e_Tl17Search_nrmm,@e_Tl17Search_als,@e_Tl17Search_alsm,@e_Tl17Search_alsc,@e_Tl17Search_fix,@e_Tl17Search_fixm⟩
theorem VF1:(∀ (f:Fl) (x:TFiber),(e_TFiber f x).fix=e_TFiber f.fix x) ∧
 (∀ (f:Fl) (xs:List TFiber),(xs.map (e_TFiber f)).map AV.fix=xs.map (e_TFiber f.fix)) ∧
 (∀ (f:Fl) (x:TNetwork),(e_TNetwork f x).fix=e_TNetwork f.fix x) ∧
 (∀ (f:Fl) (xs:List TNetwork),(xs.map (e_TNetwork f)).map AV.fix=xs.map (e_TNetwork f.fix)) ∧
 (∀ (f:Fl) (x:List Int),(e_Li f x).fix=e_Li f.fix x) ∧
 (∀ (f:Fl) (xs:List (List Int)),(xs.map (e_Li f)).map AV.fix=xs.map (e_Li f.fix)) ∧
 (∀ (f:Fl) (x:Tl17Search),(e_Tl17Search f x).fix=e_Tl17Search f.fix x) ∧
 (∀ (f:Fl) (xs:List Tl17Search),(xs.map (e_Tl17Search f)).map AV.fix=xs.map (e_Tl17Search f.fix)) :=
 ⟨@e_TFiber_fix,@e_TFiber_fixm,@e_TNetwork_fix,@e_TNetwork_fixm,@e_Li_fix,@e_Li_fixm,@e_Tl17Search_fix,@e_Tl17Search_fixm⟩
theorem VZ1:(∀ (x:TFiber),(e_TFiber .o x).fz=true) ∧
 (∀ (xs:List TFiber),fzL (xs.map (e_TFiber .o))=true) ∧
 (∀ (x:TFiber),(e_TFiber .u x).ouB=true) ∧
 (∀ (xs:List TFiber),ouBL (xs.map (e_TFiber .u))=true) ∧
 (∀ (x:TNetwork),(e_TNetwork .o x).fz=true) ∧
 (∀ (xs:List TNetwork),fzL (xs.map (e_TNetwork .o))=true) ∧
 (∀ (x:TNetwork),(e_TNetwork .u x).ouB=true) ∧
 (∀ (xs:List TNetwork),ouBL (xs.map (e_TNetwork .u))=true) ∧
 (∀ (x:List Int),(e_Li .o x).fz=true) ∧
 (∀ (xs:List (List Int)),fzL (xs.map (e_Li .o))=true) ∧
 (∀ (x:List Int),(e_Li .u x).ouB=true) ∧
 (∀ (xs:List (List Int)),ouBL (xs.map (e_Li .u))=true) ∧
 (∀ (x:Tl17Search),(e_Tl17Search .o x).fz=true) ∧
 (∀ (xs:List Tl17Search),fzL (xs.map (e_Tl17Search .o))=true) ∧
 (∀ (x:Tl17Search),(e_Tl17Search .u x).ouB=true) ∧
 (∀ (xs:List Tl17Search),ouBL (xs.map (e_Tl17Search .u))=true) :=
 ⟨@e_TFiber_fz,@e_TFiber_fzm,@e_TFiber_ou,@e_TFiber_oum,@e_TNetwork_fz,@e_TNetwork_fzm,@e_TNetwork_ou,@e_TNetwork_oum,@e_Li_fz,@e_Li_fzm,@e_Li_ou,@e_Li_oum,@e_Tl17Search_fz,@e_Tl17Search_fzm,@e_Tl17Search_ou,@e_Tl17Search_oum⟩
theorem VE1:e_TFiber .o=e_TFiber .u∧e_TFiber .m=e_TFiber .u∧e_TFiber .s=e_TFiber .u:=⟨rfl,rfl,rfl⟩
theorem Zr {α:Type} (n:Nat) (a:α):(List.replicate n a).length=n:=List.length_replicate
theorem ZA {A B:Prop} (a:A) (b:B):A∧B:=⟨a,b⟩
theorem ZF {A:Prop} (a:A) {P Q:Prop} (k:Q) (e:A→P=Q:=by intro a; simp only [VS1,VS2,VS3,VS4,VS5,VS6,VT1,VT2,finM_ret,finM_nrm,decide_true,decide_false,List.nodup_nil,List.nodup_cons,oks_p,oks_m,oks_h,ne_eq,not_false_eq_true,Int.reduceEq,Int.reduceNe,true_and,false_and,Nat.reduceSub,Nat.reduceMul,↓reduceIte,reduceCtorEq,Nat.reduceEqDiff,Nat.reduceAdd,Nat.reduceLeDiff,Int.reduceLE,a]; exact Eq.refl _):P:=(e a).mpr k
theorem ZG {P Q:Prop} (k:Q) (e:P=Q:=by simp only [VA,VF1,↓reduceIte,Nat.reduceEqDiff,Nat.reduceAdd,Nat.reduceMul,Nat.reduceSub,Nat.reduceLeDiff]; exact Eq.refl _):P:=e.mpr k
theorem ZL {A:Prop} (a:A) {B:Prop} (b:B) {P:Prop} (e:A→B→P:=by intro a b; (try simp only [VS1,VS2,VS3,VS4,VS5,VS6,VT1,VT2,finM_ret,finM_nrm,decide_true,decide_false,List.nodup_nil,List.nodup_cons,oks_p,oks_m,oks_h,ne_eq,not_false_eq_true,Int.reduceEq,Int.reduceNe,true_and,false_and,Nat.reduceSub,Nat.reduceMul,↓reduceIte,reduceCtorEq,Nat.reduceEqDiff,Nat.reduceAdd,Nat.reduceLeDiff,Int.reduceLE,a]); all_goals first | (simp [qL,qJ,qJ0,qS,qX,qR,qM,Shp,sub,tupd,finM_ret,finM_nrm,VS1,VS2,VS3,VS4,VS5,VS6,VT1,VT2,b]; done) | simp [qL,qJ,qJ0,qS,qX,qR,qM,Shp,sub,tupd,finM_ret,finM_nrm,VS1,VS2,VS3,VS4,VS5,VS6,VT1,VT2,VE1,b]):P:=e a b
theorem ZK {B:Prop} (b:B) {P:Prop} (e:B→P:=by intro b; simp [qL,qJ,qJ0,qS,qX,qR,qM,Shp,sub,tupd,finM_ret,finM_nrm,VS1,VS2,VS3,VS4,VS5,VS6,VT1,VT2,b]):P:=e b
theorem ZS {A:Prop} (a:A) {W:Prop} (w:W) {ok:Oks} {ρ:Nat→Option Row} {d f:Nat} {args:List AV} {K:AV→List (Nat×Row)→Prop} {v:Value} (hk:K (.sc v) [])
 (e:A→W→ok.p f (args.map (snp ρ 4)) (.sc v):=by intro a w; simp only [VS1,VS2,VS3,VS4,VS5,VS6,VT1,VT2,finM_ret,finM_nrm,decide_true,decide_false,List.nodup_nil,List.nodup_cons,oks_p,oks_m,oks_h,ne_eq,not_false_eq_true,Int.reduceEq,Int.reduceNe,true_and,false_and,Nat.reduceSub,Nat.reduceMul,↓reduceIte,reduceCtorEq,Nat.reduceEqDiff,Nat.reduceAdd,Nat.reduceLeDiff,Int.reduceLE,a]; exact w):callA ok ρ d f args K:=call_s (e a w) hk
theorem ZU {A:Prop} (a:A) {W:Prop} (w:W) {ok:Oks} {ρ:Nat→Option Row} {d f:Nat} {args:List AV} {K:AV→List (Nat×Row)→Prop} {res:AV} (hk:K (adopt 4 d res).1 (adopt 4 d res).2.1)
 (e:A→W→ok.p f (args.map (snp ρ 4)) res:=by intro a w; simp only [VS1,VS2,VS3,VS4,VS5,VS6,VT1,VT2,finM_ret,finM_nrm,decide_true,decide_false,List.nodup_nil,List.nodup_cons,oks_p,oks_m,oks_h,ne_eq,not_false_eq_true,Int.reduceEq,Int.reduceNe,true_and,false_and,Nat.reduceSub,Nat.reduceMul,↓reduceIte,reduceCtorEq,Nat.reduceEqDiff,Nat.reduceAdd,Nat.reduceLeDiff,Int.reduceLE,a]; exact w) (hu:res.allU:=by simp [AV.allU,allUL,allUL_iff,VT1,VT2]) (hn:∀ p∈(adopt 4 d res).2.1,ρ p.1=none∧p.1 < 1000000000:=by simp only [VS1,VS2,VS3,VS4,VS5,VS6,VT1,VT2,finM_ret,finM_nrm,decide_true,decide_false,List.nodup_nil,List.nodup_cons,oks_p,oks_m,oks_h,ne_eq,not_false_eq_true,Int.reduceEq,Int.reduceNe,true_and,false_and,Nat.reduceSub,Nat.reduceMul,↓reduceIte,reduceCtorEq,Nat.reduceEqDiff,Nat.reduceAdd,Nat.reduceLeDiff,Int.reduceLE,Nat.reduceLT]):callA ok ρ d f args K:=call_u (e a w) hu hn hk
theorem ZQ {P:Prop} (e:P:=by simp [VS1,VS2,VS3,VS4,VS5,VS6,VT1,VT2]):P:=e
theorem ZW {A:Prop} (a:A) {W:Prop} (w:W) {ok:Oks} {ρ:Nat→Option Row} {d f:Nat} {args:List AV} {rs:List Nat} {K:AV→List (Nat×Row)→Prop} {res:AV} {outs:List (Nat×Row)}
 (e:A→W→ok.m f (args.map (AV.rg (cnm rs))) (rs.map (rowIn ρ rs)) res outs:=by intro a w; simp only [VS1,VS2,VS3,VS4,VS5,VS6,VT1,VT2,finM_ret,finM_nrm,decide_true,decide_false,List.nodup_nil,List.nodup_cons,oks_p,oks_m,oks_h,ne_eq,not_false_eq_true,Int.reduceEq,Int.reduceNe,true_and,false_and,Nat.reduceSub,Nat.reduceMul,↓reduceIte,reduceCtorEq,Nat.reduceEqDiff,Nat.reduceAdd,Nat.reduceLeDiff,Int.reduceLE,a]; first | exact w | (simp only [VS1,VS2,VS3,VS4,VS5,VS6,VT1,VT2,finM_ret,finM_nrm,decide_true,decide_false,List.nodup_nil,List.nodup_cons,oks_p,oks_m,oks_h,ne_eq,not_false_eq_true,Int.reduceEq,Int.reduceNe,true_and,false_and,Nat.reduceSub,Nat.reduceMul,↓reduceIte,reduceCtorEq,Nat.reduceEqDiff,Nat.reduceAdd,Nat.reduceLeDiff,Int.reduceLE,a] at w; exact w))
 (h1:rs.Nodup∧(∀ r∈rs,isLive (ρ r))∧(∀ r∈rs,∀ q∈oments (ρ r),q∈rs)∧(∀ r∈mentsL args,r∈rs):=by simp [VS1,VS2,VS3,VS4,VS5,VS6,VT1,VT2])
 (h2:(outs.map fun p=>bkn d rs p.1).Nodup∧(∀ p∈outs,1000000000≤p.1→p.1 - 1000000000 < rs.length)∧(∀ p∈outs,p.1 < 1000000000→ρ (bkn d rs p.1)=none∧bkn d rs p.1 < 1000000000))
 (hk:K (res.rg (bkn d rs)) (gone rs++outs.map (rowBk d rs))):callM ok ρ d f args rs K:=call_m (e a w) h1 h2 hk
def S_r (aZ0:List ByteArray) (v:Int×Int):St:=⟨[(0,.lst .o 1 (aZ0.map AV.z)),(1,.i v.1),(5,.i v.2)],[]⟩
def SX_r (v:Int):St:=⟨[(1,.i v)],[]⟩
theorem w_r (aZ0:List ByteArray) (sZ2:Int×Int) (o:(Int×Int) ⊕ (Int ⊕ Int)) (h:M_r aZ0 sZ2=some o):AWP (OkS Try.prog) A38L1 (qL [0,1,5] [] (S_r aZ0) (qS (qX 0 [1] [] (SX_r)) (qR V38 (fun r=>.i r))) o) (S_r aZ0 sZ2):=by
 unfold M_r at h
 simp only [ZC,S_r,A38L1]
 obtain ⟨cZ3,h⟩ | ⟨cZ3,h⟩:=cond_s h
 · obtain ⟨yZ4,hyZ4,h⟩:=bind_s h
   obtain ⟨hyZ4a,hyZ4b⟩:=geti_s hyZ4
   obtain ⟨cZ5,h⟩ | ⟨cZ5,h⟩:=cond_s h
   · cases h
     exact ZL (ZA cZ3 (ZA hyZ4a (ZA hyZ4b cZ5))) V38.eq_1
   · cases h
     exact ZL (ZA cZ3 (ZA hyZ4a (ZA hyZ4b cZ5))) (ZA S_r.eq_1 SX_r.eq_1)
 · cases h
   exact ZL cZ3 (ZA S_r.eq_1 SX_r.eq_1)
theorem w_cd (aZ0:List ByteArray) (leftZ0:Int) {r:Int} (h:M_cd aZ0 leftZ0=some r):Ok Try.prog 38 [.lst .o 1 (aZ0.map AV.z),.i leftZ0] ((fun r=>.i r) r):=by
 refine ok_of_body hmix m38 rfl ?_
 unfold M_cd at h
 simp only [ZC,A38,V38,body_eq]
 obtain ⟨cZ1,h⟩ | ⟨cZ1,h⟩:=cond_s h
 · cases h
   exact ZL cZ1 V38.eq_1
 · obtain ⟨oZ6,hoZ6,h⟩:=bind_s h
   try refine ZF cZ1 ?_
   refine join_rule (o:=oZ6) (blk_rule sideR (loop_rule (w_r aZ0) hoZ6 ?_)) (fun vZ7 hv=>?_) (fun xZ8 hv e τ hne hq=>?_)
   · exact ZK (ZA S_r.eq_1 SX_r.eq_1)
   · subst hv
     simp only [] at h
     simp only [ZC,SX_r,A38R2]
     cases h
     exact ZL cZ1 V38.eq_1
   · subst hv
     simp only [] at h
     obtain ⟨rfl,qZ9⟩:=hq
     cases h
     exact qZ9
theorem w_ce (aZ0:List TFiber) (leftZ0:Int) {r:Int} (h:M_ce aZ0 leftZ0=some r):Ok Try.prog 39 [.lst .o 4 (aZ0.map (e_TFiber .o)),.i leftZ0] ((fun r=>.i r) r):=by
 refine ok_of_body hmix m39 rfl ?_
 unfold M_ce at h
 simp only [ZC,A39,V39,body_eq]
 obtain ⟨cZ1,h⟩ | ⟨cZ1,h⟩:=cond_s h
 · cases h
   exact ZL cZ1 V39.eq_1
 · cases h
   exact ZL cZ1 V39.eq_1
theorem w_cf (aZ0:TNetwork) (leftZ0:Int) {r:Int} (h:M_cf aZ0 leftZ0=some r):Ok Try.prog 10 [.agg [.lst .o 1 (aZ0.Nodes.map AV.z),.lst .o 4 (aZ0.Fibers.map (e_TFiber .o))],.i leftZ0] ((fun r=>.i r) r):=by
 refine ok_of_body hmix m10 rfl ?_
 unfold M_cf at h
 simp only [ZC,A10,V10,body_eq]
 obtain ⟨rZ1,hrZ1,h⟩:=bind_s h
 refine ZF trivial ?_
 refine ZS trivial (w_cd _ _ hrZ1) ?_
 refine ZG ?_
 obtain ⟨cZ2,h⟩ | ⟨cZ2,h⟩:=cond_s h
 · cases h
   exact ZL cZ2 V10.eq_1
 · obtain ⟨rZ3,hrZ3,h⟩:=bind_s h
   refine ZF cZ2 ?_
   refine ZS cZ2 (w_ce _ _ hrZ3) ?_
   refine ZG ?_
   obtain ⟨cZ4,h⟩ | ⟨cZ4,h⟩:=cond_s h
   · cases h
     exact ZL (ZA cZ2 cZ4) V10.eq_1
   · cases h
     exact ZL (ZA cZ2 cZ4) V10.eq_1
def S_s (aZ0:List ByteArray) (v:Int×List ByteArray):St:=⟨[(0,.lst .o 1 (aZ0.map AV.z)),(3,.sl 3 0 v.2.length),(4,.i v.1)],[(3,.arr 1 (v.2.map AV.z))]⟩
def SX_s (v:List ByteArray):St:=⟨[(3,.sl 3 0 v.length)],[(3,.arr 1 (v.map AV.z))]⟩
theorem w_s (aZ0:List ByteArray) (sZ4:Int×List ByteArray) (o:(Int×List ByteArray) ⊕ (List ByteArray)) (h:M_s aZ0 sZ4=some o):AWP (OkS Try.prog) A42L1 (qL [0,3,4] [3] (S_s aZ0) (qX 0 [3] [3] (SX_s)) o) (S_s aZ0 sZ4):=by
 unfold M_s at h
 simp only [ZC,S_s,A42L1]
 obtain ⟨cZ5,h⟩ | ⟨cZ5,h⟩:=cond_s h
 · obtain ⟨yZ6,hyZ6,h⟩:=bind_s h
   obtain ⟨hyZ6a,hyZ6b⟩:=geti_s hyZ6
   obtain ⟨kZ7,hkZ7,h⟩:=bind_s h
   obtain ⟨hkZ7a,hkZ7b⟩:=grd_s hkZ7
   obtain ⟨yZ8,hyZ8,h⟩:=bind_s h
   obtain ⟨lZ9,hlZ9,h⟩:=bnd_s h
   have eZ10:(sZ4.2.map AV.z).set (Int.toNat sZ4.1) (.z yZ6)=lZ9.map AV.z:=by rw [← hlZ9,List.map_set]
   cases h
   exact ZL (ZA cZ5 (ZA hyZ6a (ZA hyZ6b (ZA hkZ7a (ZA hkZ7b (ZA hyZ8 eZ10)))))) (ZA S_s.eq_1 (ZA SX_s.eq_1 hlZ9.symm))
 · cases h
   exact ZL cZ5 (ZA S_s.eq_1 SX_s.eq_1)
theorem w_cg (aZ0:List ByteArray) {r:List ByteArray} (h:M_cg aZ0=some r):Ok Try.prog 42 [.lst .o 1 (aZ0.map AV.z)] ((fun r=>.lst .u 1 (r.map AV.z)) r):=by
 refine ok_of_body hmix m42 rfl ?_
 unfold M_cg at h
 simp only [ZC,A42,V42,body_eq]
 obtain ⟨uZ1,huZ1,h⟩:=bind_s h
 obtain ⟨huZ11,huZ12,huZ13,huZ14⟩:=grd_s huZ1
 obtain ⟨lZ2,hlZ2,h⟩:=bnd_s h
 have eZ3:List.replicate (Int.toNat (aZ0.length:Int)) (.z (⟨#[]⟩:ByteArray):AV)=lZ2.map AV.z:=by rw [← hlZ2,List.map_replicate]
 obtain ⟨oZ11,hoZ11,h⟩:=bind_s h
 try refine ZF (ZA huZ11 (ZA huZ12 (ZA huZ13 (ZA huZ14 eZ3)))) ?_
 refine join_rule0 (blk_rule0 (loop_rule (w_s aZ0) hoZ11 ?_)) ?_
 · exact ZK (ZA S_s.eq_1 (ZA SX_s.eq_1 (ZA hlZ2.symm @Zr)))
 · simp only [ZC,SX_s,A42R2]
   cases h
   exact ZL (ZA huZ11 (ZA huZ12 (ZA huZ13 (ZA huZ14 eZ3)))) V42.eq_1
theorem w_bj (aZ0:TFiber) {r:TFiber} (h:M_bj aZ0=some r):Ok Try.prog 79 [.agg [.i aZ0.A,.i aZ0.B,.i aZ0.Length,.i aZ0.Risk]] ((fun r=>.agg [.i r.A,.i r.B,.i r.Length,.i r.Risk]) r):=by
 refine ok_of_body hmix m79 rfl ?_
 unfold M_bj at h
 simp only [ZC,A79,V79,body_eq]
 cases h
 exact ZL trivial V79.eq_1
def S_t (aZ0:List TFiber) (v:Int×List TFiber):St:=⟨[(0,.lst .o 4 (aZ0.map (e_TFiber .o))),(3,.sl 3 0 v.2.length),(4,.i v.1)],[(3,.arr 4 (v.2.map (e_TFiber .u)))]⟩
def SX_t (v:List TFiber):St:=⟨[(3,.sl 3 0 v.length)],[(3,.arr 4 (v.map (e_TFiber .u)))]⟩
theorem w_t (aZ0:List TFiber) (sZ4:Int×List TFiber) (o:(Int×List TFiber) ⊕ (List TFiber)) (h:M_t aZ0 sZ4=some o):AWP (OkS Try.prog) A43L1 (qL [0,3,4] [3] (S_t aZ0) (qX 0 [3] [3] (SX_t)) o) (S_t aZ0 sZ4):=by
 unfold M_t at h
 simp only [ZC,S_t,A43L1]
 obtain ⟨cZ5,h⟩ | ⟨cZ5,h⟩:=cond_s h
 · obtain ⟨yZ6,hyZ6,h⟩:=bind_s h
   obtain ⟨hyZ6a,hyZ6b⟩:=geti_s hyZ6
   obtain ⟨rZ7,hrZ7,h⟩:=bind_s h
   refine ZF (ZA cZ5 (ZA hyZ6a hyZ6b)) ?_
   refine ZU (ZA cZ5 (ZA hyZ6a hyZ6b)) (w_bj _ hrZ7) ?_
   refine ZG ?_
   obtain ⟨kZ8,hkZ8,h⟩:=bind_s h
   obtain ⟨hkZ8a,hkZ8b⟩:=grd_s hkZ8
   obtain ⟨yZ9,hyZ9,h⟩:=bind_s h
   obtain ⟨lZ10,hlZ10,h⟩:=bnd_s h
   have eZ11:(sZ4.2.map (e_TFiber .u)).set (Int.toNat sZ4.1) (.agg [.i rZ7.A,.i rZ7.B,.i rZ7.Length,.i rZ7.Risk])=lZ10.map (e_TFiber .u):=by rw [← hlZ10,List.map_set]; rfl
   cases h
   exact ZL (ZA cZ5 (ZA hyZ6a (ZA hyZ6b (ZA hkZ8a (ZA hkZ8b (ZA hyZ9 eZ11)))))) (ZA S_t.eq_1 (ZA SX_t.eq_1 hlZ10.symm))
 · cases h
   exact ZL cZ5 (ZA S_t.eq_1 SX_t.eq_1)
theorem w_ch (aZ0:List TFiber) {r:List TFiber} (h:M_ch aZ0=some r):Ok Try.prog 43 [.lst .o 4 (aZ0.map (e_TFiber .o))] ((fun r=>.lst .u 4 (r.map (e_TFiber .u))) r):=by
 refine ok_of_body hmix m43 rfl ?_
 unfold M_ch at h
 simp only [ZC,A43,V43,body_eq]
 obtain ⟨uZ1,huZ1,h⟩:=bind_s h
 obtain ⟨huZ11,huZ12,huZ13,huZ14⟩:=grd_s huZ1
 obtain ⟨lZ2,hlZ2,h⟩:=bnd_s h
 have eZ3:List.replicate (Int.toNat (aZ0.length:Int)) (.agg [.i 0,.i 0,.i 0,.i 0]:AV)=lZ2.map (e_TFiber .u):=by rw [← hlZ2,List.map_replicate]; rfl
 obtain ⟨oZ12,hoZ12,h⟩:=bind_s h
 try refine ZF (ZA huZ11 (ZA huZ12 (ZA huZ13 (ZA huZ14 eZ3)))) ?_
 refine join_rule0 (blk_rule0 (loop_rule (w_t aZ0) hoZ12 ?_)) ?_
 · exact ZK (ZA S_t.eq_1 (ZA SX_t.eq_1 (ZA hlZ2.symm @Zr)))
 · simp only [ZC,SX_t,A43R2]
   cases h
   exact ZL (ZA huZ11 (ZA huZ12 (ZA huZ13 (ZA huZ14 eZ3)))) V43.eq_1
theorem w_au (aZ0:TNetwork) {r:TNetwork} (h:M_au aZ0=some r):Ok Try.prog 12 [.agg [.lst .o 1 (aZ0.Nodes.map AV.z),.lst .o 4 (aZ0.Fibers.map (e_TFiber .o))]] ((fun r=>.agg [.lst .u 1 (r.Nodes.map AV.z),.lst .u 4 (r.Fibers.map (e_TFiber .u))]) r):=by
 refine ok_of_body hmix m12 rfl ?_
 unfold M_au at h
 simp only [ZC,A12,V12,body_eq]
 obtain ⟨rZ1,hrZ1,h⟩:=bind_s h
 refine ZF trivial ?_
 refine ZU trivial (w_cg _ hrZ1) ?_
 refine ZG ?_
 obtain ⟨rZ2,hrZ2,h⟩:=bind_s h
 refine ZF trivial ?_
 refine ZU trivial (w_ch _ hrZ2) ?_
 refine ZG ?_
 cases h
 exact ZL trivial V12.eq_1
theorem w_an (xZ0:Int) (aZ0:Int) (bZ0:Int) {r:Bool} (h:M_an xZ0 aZ0 bZ0=some r):Ok Try.prog 53 [.i xZ0,.i aZ0,.i bZ0] ((fun r=>.b r) r):=by
 refine ok_of_body hmix m53 rfl ?_
 unfold M_an at h
 simp only [ZC,A53,V53,body_eq]
 obtain ⟨cZ1,h⟩ | ⟨cZ1,h⟩:=cond_s h
 · cases h
   exact ZL cZ1 V53.eq_1
 · cases h
   exact ZL cZ1 V53.eq_1
theorem w_ci (bZ0:Int) {r:Bool} (h:M_ci bZ0=some r):Ok Try.prog 108 [.sc (.int .u8 bZ0)] ((fun r=>.b r) r):=by
 refine ok_of_body hmix m108 rfl ?_
 unfold M_ci at h
 simp only [ZC,A108,V108,body_eq]
 obtain ⟨cZ1,h⟩ | ⟨cZ1,h⟩:=cond_s h
 · obtain ⟨cZ2,h⟩ | ⟨cZ2,h⟩:=cond_s h
   · cases h
     exact ZL (ZA cZ1 cZ2) V108.eq_1
   · obtain ⟨cZ3,h⟩ | ⟨cZ3,h⟩:=cond_s h
     · cases h
       exact ZL (ZA cZ1 (ZA cZ2 cZ3)) V108.eq_1
     · cases h
       exact ZL (ZA cZ1 (ZA cZ2 cZ3)) V108.eq_1
 · obtain ⟨cZ4,h⟩ | ⟨cZ4,h⟩:=cond_s h
   · cases h
     exact ZL (ZA cZ1 cZ4) V108.eq_1
   · cases h
     exact ZL (ZA cZ1 cZ4) V108.eq_1
def S_u (sZ0:ByteArray) (v:Int):St:=⟨[(0,.z sZ0),(3,.i v)],[]⟩
def SX_u (v:Unit):St:=⟨[],[]⟩
theorem w_u (sZ0:ByteArray) (sZ7:Int) (o:Int ⊕ (Unit ⊕ Bool)) (h:M_u sZ0 sZ7=some o):AWP (OkS Try.prog) A72L2 (qL [0,3] [] (S_u sZ0) (qS (qX 0 [] [] (SX_u)) (qR V72 (fun r=>.b r))) o) (S_u sZ0 sZ7):=by
 unfold M_u at h
 simp only [ZC,S_u,A72L2]
 obtain ⟨cZ8,h⟩ | ⟨cZ8,h⟩:=cond_s h
 · obtain ⟨yZ9,hyZ9,h⟩:=bind_s h
   obtain ⟨hyZ9a,hyZ9b⟩:=getz_s hyZ9
   obtain ⟨rZ10,hrZ10,h⟩:=bind_s h
   refine ZF (ZA cZ8 (ZA hyZ9a hyZ9b)) ?_
   refine ZS (ZA cZ8 (ZA hyZ9a hyZ9b)) (w_ci _ hrZ10) ?_
   refine ZG ?_
   obtain ⟨cZ11,h⟩ | ⟨cZ11,h⟩:=cond_s h
   · cases h
     exact ZL (ZA cZ8 (ZA hyZ9a (ZA hyZ9b cZ11))) V72.eq_1
   · cases h
     exact ZL (ZA cZ8 (ZA hyZ9a (ZA hyZ9b cZ11))) (ZA S_u.eq_1 SX_u.eq_1)
 · cases h
   exact ZL cZ8 (ZA S_u.eq_1 SX_u.eq_1)
theorem w_cj (sZ0:ByteArray) {r:Bool} (h:M_cj sZ0=some r):Ok Try.prog 72 [.z sZ0] ((fun r=>.b r) r):=by
 refine ok_of_body hmix m72 rfl ?_
 unfold M_cj at h
 simp only [ZC,A72,V72,body_eq]
 obtain ⟨oZ5,hoZ5,h⟩:=bind_s h
 try refine ZF trivial ?_
 refine join_rule0 (sh:=(fun v=>⟨[(0,.z sZ0),(17,.b v)],[]⟩)) (s:=oZ5) ?_ ?_
 · replace h:=hoZ5
   obtain ⟨rZ1,hrZ1,h⟩:=bind_s h
   refine ZF trivial ?_
   refine ZS trivial (w_an _ _ _ hrZ1) ?_
   refine ZG ?_
   obtain ⟨cZ2,h⟩ | ⟨cZ2,h⟩:=cond_s h
   · cases h
     exact ZL cZ2 trivial
   · obtain ⟨yZ3,hyZ3,h⟩:=bind_s h
     obtain ⟨hyZ3a,hyZ3b⟩:=getz_s hyZ3
     obtain ⟨cZ4,h⟩ | ⟨cZ4,h⟩:=cond_s h
     · cases h
       exact ZL (ZA cZ2 (ZA hyZ3a (ZA hyZ3b cZ4))) trivial
     · cases h
       exact ZL (ZA cZ2 (ZA hyZ3a (ZA hyZ3b cZ4))) trivial
 · simp only [ZC,A72R1]
   obtain ⟨cZ6,h⟩ | ⟨cZ6,h⟩:=cond_s h
   · cases h
     exact ZL cZ6 V72.eq_1
   · obtain ⟨oZ12,hoZ12,h⟩:=bind_s h
     try refine ZF cZ6 ?_
     refine join_rule (o:=oZ12) (blk_rule sideR (loop_rule (w_u sZ0) hoZ12 ?_)) (fun vZ13 hv=>?_) (fun xZ14 hv e τ hne hq=>?_)
     · exact ZK (ZA S_u.eq_1 SX_u.eq_1)
     · subst hv
       simp only [] at h
       simp only [ZC,SX_u,A72R3]
       cases h
       exact ZL cZ6 V72.eq_1
     · subst hv
       simp only [] at h
       obtain ⟨rfl,qZ15⟩:=hq
       cases h
       exact qZ15
def S_v (listZ0:List ByteArray) (nameZ0:ByteArray) (v:Int):St:=⟨[(0,.lst .o 1 (listZ0.map AV.z)),(1,.z nameZ0),(5,.i v)],[]⟩
def SX_v (v:Unit):St:=⟨[],[]⟩
theorem w_v (listZ0:List ByteArray) (nameZ0:ByteArray) (sZ1:Int) (o:Int ⊕ (Unit ⊕ Int)) (h:M_v listZ0 nameZ0 sZ1=some o):AWP (OkS Try.prog) A73L1 (qL [0,1,5] [] (S_v listZ0 nameZ0) (qS (qX 0 [] [] (SX_v)) (qR V73 (fun r=>.i r))) o) (S_v listZ0 nameZ0 sZ1):=by
 unfold M_v at h
 simp only [ZC,S_v,A73L1]
 obtain ⟨cZ2,h⟩ | ⟨cZ2,h⟩:=cond_s h
 · obtain ⟨yZ3,hyZ3,h⟩:=bind_s h
   obtain ⟨hyZ3a,hyZ3b⟩:=geti_s hyZ3
   obtain ⟨cZ4,h⟩ | ⟨cZ4,h⟩:=cond_s h
   · cases h
     exact ZL (ZA cZ2 (ZA hyZ3a (ZA hyZ3b cZ4))) V73.eq_1
   · cases h
     exact ZL (ZA cZ2 (ZA hyZ3a (ZA hyZ3b cZ4))) (ZA S_v.eq_1 SX_v.eq_1)
 · cases h
   exact ZL cZ2 (ZA S_v.eq_1 SX_v.eq_1)
theorem w_ck (listZ0:List ByteArray) (nameZ0:ByteArray) {r:Int} (h:M_ck listZ0 nameZ0=some r):Ok Try.prog 73 [.lst .o 1 (listZ0.map AV.z),.z nameZ0] ((fun r=>.i r) r):=by
 refine ok_of_body hmix m73 rfl ?_
 unfold M_ck at h
 simp only [ZC,A73,V73,body_eq]
 obtain ⟨oZ5,hoZ5,h⟩:=bind_s h
 try refine ZF trivial ?_
 refine join_rule (o:=oZ5) (blk_rule sideR (loop_rule (w_v listZ0 nameZ0) hoZ5 ?_)) (fun vZ6 hv=>?_) (fun xZ7 hv e τ hne hq=>?_)
 · exact ZK (ZA S_v.eq_1 SX_v.eq_1)
 · subst hv
   simp only [] at h
   simp only [ZC,SX_v,A73R2]
   cases h
   exact ZL trivial V73.eq_1
 · subst hv
   simp only [] at h
   obtain ⟨rfl,qZ8⟩:=hq
   cases h
   exact qZ8
theorem w_bu (fZ0:TFiber) (nodesZ0:Int) {r:Bool} (h:M_bu fZ0 nodesZ0=some r):Ok Try.prog 74 [.agg [.i fZ0.A,.i fZ0.B,.i fZ0.Length,.i fZ0.Risk],.i nodesZ0] ((fun r=>.b r) r):=by
 refine ok_of_body hmix m74 rfl ?_
 unfold M_bu at h
 simp only [ZC,A74,V74,body_eq]
 obtain ⟨rZ1,hrZ1,h⟩:=bind_s h
 refine ZF trivial ?_
 refine ZS trivial (w_an _ _ _ hrZ1) ?_
 refine ZG ?_
 obtain ⟨cZ2,h⟩ | ⟨cZ2,h⟩:=cond_s h
 · obtain ⟨rZ3,hrZ3,h⟩:=bind_s h
   refine ZF cZ2 ?_
   refine ZS cZ2 (w_an _ _ _ hrZ3) ?_
   refine ZG ?_
   obtain ⟨cZ4,h⟩ | ⟨cZ4,h⟩:=cond_s h
   · obtain ⟨rZ5,hrZ5,h⟩:=bind_s h
     refine ZF (ZA cZ2 cZ4) ?_
     refine ZS (ZA cZ2 cZ4) (w_an _ _ _ hrZ5) ?_
     refine ZG ?_
     obtain ⟨cZ6,h⟩ | ⟨cZ6,h⟩:=cond_s h
     · obtain ⟨rZ7,hrZ7,h⟩:=bind_s h
       refine ZF (ZA cZ2 (ZA cZ4 cZ6)) ?_
       refine ZS (ZA cZ2 (ZA cZ4 cZ6)) (w_an _ _ _ hrZ7) ?_
       refine ZG ?_
       cases h
       exact ZL (ZA cZ2 (ZA cZ4 cZ6)) V74.eq_1
     · cases h
       exact ZL (ZA cZ2 (ZA cZ4 cZ6)) V74.eq_1
   · cases h
     exact ZL (ZA cZ2 cZ4) V74.eq_1
 · cases h
   exact ZL cZ2 V74.eq_1
theorem w_bv (fZ0:TFiber) (gZ0:TFiber) {r:Int} (h:M_bv fZ0 gZ0=some r):Ok Try.prog 75 [.agg [.i fZ0.A,.i fZ0.B,.i fZ0.Length,.i fZ0.Risk],.agg [.i gZ0.A,.i gZ0.B,.i gZ0.Length,.i gZ0.Risk]] ((fun r=>.i r) r):=by
 refine ok_of_body hmix m75 rfl ?_
 unfold M_bv at h
 simp only [ZC,A75,V75,body_eq]
 obtain ⟨cZ1,h⟩ | ⟨cZ1,h⟩:=cond_s h
 · cases h
   exact ZL cZ1 V75.eq_1
 · obtain ⟨cZ2,h⟩ | ⟨cZ2,h⟩:=cond_s h
   · cases h
     exact ZL (ZA cZ1 cZ2) V75.eq_1
   · obtain ⟨cZ3,h⟩ | ⟨cZ3,h⟩:=cond_s h
     · cases h
       exact ZL (ZA cZ1 (ZA cZ2 cZ3)) V75.eq_1
     · cases h
       exact ZL (ZA cZ1 (ZA cZ2 cZ3)) V75.eq_1
def S_o (nZ0:TNetwork) (v:Int):St:=⟨[(1,.pt 1 0 0),(3,.i v)],[(1,.var (.agg [.lst .o 1 (nZ0.Nodes.map AV.z),.lst .o 4 (nZ0.Fibers.map (e_TFiber .o))]))]⟩
def SX_o (nZ0:TNetwork) (v:Unit):St:=⟨[(1,.pt 1 0 0)],[(1,.var (.agg [.lst .o 1 (nZ0.Nodes.map AV.z),.lst .o 4 (nZ0.Fibers.map (e_TFiber .o))]))]⟩
theorem w_o (nZ0:TNetwork) (sZ5:Int) (o:Int ⊕ (Unit ⊕ Bool)) (h:M_o nZ0 sZ5=some o):AWP (OkS Try.prog) A40L3 (qL [1,3] [1] (S_o nZ0) (qS (qX 0 [1] [1] (SX_o nZ0)) (qR V40 (fun r=>.b r))) o) (S_o nZ0 sZ5):=by
 unfold M_o at h
 simp only [ZC,S_o,A40L3]
 obtain ⟨cZ6,h⟩ | ⟨cZ6,h⟩:=cond_s h
 · obtain ⟨oZ11,hoZ11,h⟩:=bind_s h
   try refine ZF cZ6 ?_
   refine join_rule0 (sh:=(fun v=>⟨[(1,.pt 1 0 0),(3,.i sZ5),(41,.b v)],[(1,.var (.agg [.lst .o 1 (nZ0.Nodes.map AV.z),.lst .o 4 (nZ0.Fibers.map (e_TFiber .o))]))]⟩)) (s:=oZ11) ?_ ?_
   · replace h:=hoZ11
     obtain ⟨yZ7,hyZ7,h⟩:=bind_s h
     obtain ⟨hyZ7a,hyZ7b⟩:=geti_s hyZ7
     obtain ⟨rZ8,hrZ8,h⟩:=bind_s h
     refine ZF (ZA cZ6 (ZA hyZ7a hyZ7b)) ?_
     refine ZS (ZA cZ6 (ZA hyZ7a hyZ7b)) (w_cj _ hrZ8) ?_
     refine ZG ?_
     obtain ⟨cZ9,h⟩ | ⟨cZ9,h⟩:=cond_s h
     · cases h
       exact ZL (ZA cZ6 (ZA hyZ7a (ZA hyZ7b cZ9))) trivial
     · obtain ⟨rZ10,hrZ10,h⟩:=bind_s h
       refine ZF (ZA cZ6 (ZA hyZ7a (ZA hyZ7b cZ9))) ?_
       refine ZS (ZA cZ6 (ZA hyZ7a (ZA hyZ7b cZ9))) (w_ck _ _ hrZ10) ?_
       refine ZG ?_
       cases h
       exact ZL (ZA cZ6 (ZA hyZ7a (ZA hyZ7b cZ9))) trivial
   · simp only [ZC,A40R2]
     obtain ⟨cZ12,h⟩ | ⟨cZ12,h⟩:=cond_s h
     · cases h
       exact ZL (ZA cZ6 cZ12) V40.eq_1
     · cases h
       exact ZL (ZA cZ6 cZ12) (ZA S_o.eq_1 SX_o.eq_1)
 · cases h
   exact ZL cZ6 (ZA S_o.eq_1 SX_o.eq_1)
def S_p (nZ0:TNetwork) (v:Int):St:=⟨[(1,.pt 1 0 0),(4,.i v)],[(1,.var (.agg [.lst .o 1 (nZ0.Nodes.map AV.z),.lst .o 4 (nZ0.Fibers.map (e_TFiber .o))]))]⟩
def SX_p (v:Unit):St:=⟨[],[]⟩
theorem w_p (nZ0:TNetwork) (sZ16:Int) (o:Int ⊕ (Unit ⊕ Bool)) (h:M_p nZ0 sZ16=some o):AWP (OkS Try.prog) A40L6 (qL [1,4] [1] (S_p nZ0) (qS (qX 2 [] [] (SX_p)) (qR V40 (fun r=>.b r))) o) (S_p nZ0 sZ16):=by
 unfold M_p at h
 simp only [ZC,S_p,A40L6]
 obtain ⟨cZ17,h⟩ | ⟨cZ17,h⟩:=cond_s h
 · obtain ⟨oZ24,hoZ24,h⟩:=bind_s h
   try refine ZF cZ17 ?_
   refine join_rule0 (sh:=(fun v=>⟨[(1,.pt 1 0 0),(4,.i sZ16),(77,.b v)],[(1,.var (.agg [.lst .o 1 (nZ0.Nodes.map AV.z),.lst .o 4 (nZ0.Fibers.map (e_TFiber .o))]))]⟩)) (s:=oZ24) ?_ ?_
   · replace h:=hoZ24
     obtain ⟨yZ18,hyZ18,h⟩:=bind_s h
     obtain ⟨hyZ18a,hyZ18b⟩:=geti_s hyZ18
     obtain ⟨rZ19,hrZ19,h⟩:=bind_s h
     refine ZF (ZA cZ17 (ZA hyZ18a hyZ18b)) ?_
     refine ZS (ZA cZ17 (ZA hyZ18a hyZ18b)) (w_bu _ _ hrZ19) ?_
     refine ZG ?_
     obtain ⟨cZ20,h⟩ | ⟨cZ20,h⟩:=cond_s h
     · cases h
       exact ZL (ZA cZ17 (ZA hyZ18a (ZA hyZ18b cZ20))) trivial
     · obtain ⟨cZ21,h⟩ | ⟨cZ21,h⟩:=cond_s h
       · obtain ⟨yZ22,hyZ22,h⟩:=bind_s h
         obtain ⟨hyZ22a,hyZ22b⟩:=geti_s hyZ22
         obtain ⟨rZ23,hrZ23,h⟩:=bind_s h
         refine ZF (ZA cZ17 (ZA hyZ18a (ZA hyZ18b (ZA cZ20 (ZA cZ21 (ZA hyZ22a hyZ22b)))))) ?_
         refine ZS (ZA cZ17 (ZA hyZ18a (ZA hyZ18b (ZA cZ20 (ZA cZ21 (ZA hyZ22a hyZ22b)))))) (w_bv _ _ hrZ23) ?_
         refine ZG ?_
         cases h
         exact ZL (ZA cZ17 (ZA hyZ18a (ZA hyZ18b (ZA cZ20 (ZA cZ21 (ZA hyZ22a hyZ22b)))))) trivial
       · cases h
         exact ZL (ZA cZ17 (ZA hyZ18a (ZA hyZ18b (ZA cZ20 cZ21)))) trivial
   · simp only [ZC,A40R5]
     obtain ⟨cZ25,h⟩ | ⟨cZ25,h⟩:=cond_s h
     · cases h
       exact ZL (ZA cZ17 cZ25) V40.eq_1
     · cases h
       exact ZL (ZA cZ17 cZ25) (ZA S_p.eq_1 SX_p.eq_1)
 · cases h
   exact ZL cZ17 (ZA S_p.eq_1 SX_p.eq_1)
theorem w_bw (nZ0:TNetwork) {r:Bool} (h:M_bw nZ0=some r):Ok Try.prog 40 [.agg [.lst .o 1 (nZ0.Nodes.map AV.z),.lst .o 4 (nZ0.Fibers.map (e_TFiber .o))]] ((fun r=>.b r) r):=by
 refine ok_of_body hmix m40 rfl ?_
 unfold M_bw at h
 simp only [ZC,A40,V40,body_eq]
 obtain ⟨oZ3,hoZ3,h⟩:=bind_s h
 try refine ZF trivial ?_
 refine join_rule0 (sh:=(fun v=>⟨[(1,.pt 1 0 0),(15,.b v)],[(1,.var (.agg [.lst .o 1 (nZ0.Nodes.map AV.z),.lst .o 4 (nZ0.Fibers.map (e_TFiber .o))]))]⟩)) (s:=oZ3) ?_ ?_
 · replace h:=hoZ3
   obtain ⟨rZ1,hrZ1,h⟩:=bind_s h
   refine ZF trivial ?_
   refine ZS trivial (w_an _ _ _ hrZ1) ?_
   refine ZG ?_
   obtain ⟨cZ2,h⟩ | ⟨cZ2,h⟩:=cond_s h
   · cases h
     exact ZL cZ2 trivial
   · cases h
     exact ZL cZ2 trivial
 · simp only [ZC,A40R1]
   obtain ⟨cZ4,h⟩ | ⟨cZ4,h⟩:=cond_s h
   · cases h
     exact ZL cZ4 V40.eq_1
   · obtain ⟨oZ13,hoZ13,h⟩:=bind_s h
     try refine ZF cZ4 ?_
     refine join_rule (o:=oZ13) (blk_rule sideR (loop_rule (w_o nZ0) hoZ13 ?_)) (fun vZ14 hv=>?_) (fun xZ15 hv e τ hne hq=>?_)
     · exact ZK (ZA S_o.eq_1 SX_o.eq_1)
     · subst hv
       simp only [] at h
       simp only [ZC,SX_o,A40R4]
       obtain ⟨oZ26,hoZ26,h⟩:=bind_s h
       try refine ZF cZ4 ?_
       refine join_rule (o:=oZ26) (blk_rule sideR (loop_rule (w_p nZ0) hoZ26 ?_)) (fun vZ27 hv=>?_) (fun xZ28 hv e τ hne hq=>?_)
       · exact ZK (ZA S_p.eq_1 SX_p.eq_1)
       · subst hv
         simp only [] at h
         simp only [ZC,SX_p,A40R7]
         cases h
         exact ZL cZ4 V40.eq_1
       · subst hv
         simp only [] at h
         obtain ⟨rfl,qZ29⟩:=hq
         cases h
         exact qZ29
     · subst hv
       simp only [] at h
       obtain ⟨rfl,qZ30⟩:=hq
       cases h
       exact qZ30
theorem w_bi (nZ0:TNetwork) (fiberZ0:Int) (nodeZ0:Int) {r:Int} (h:M_bi nZ0 fiberZ0 nodeZ0=some r):Ok Try.prog 99 [.agg [.lst .o 1 (nZ0.Nodes.map AV.z),.lst .o 4 (nZ0.Fibers.map (e_TFiber .o))],.i fiberZ0,.i nodeZ0] ((fun r=>.i r) r):=by
 refine ok_of_body hmix m99 rfl ?_
 unfold M_bi at h
 simp only [ZC,A99,V99,body_eq]
 obtain ⟨yZ1,hyZ1,h⟩:=bind_s h
 obtain ⟨hyZ1a,hyZ1b⟩:=geti_s hyZ1
 obtain ⟨cZ2,h⟩ | ⟨cZ2,h⟩:=cond_s h
 · cases h
   exact ZL (ZA hyZ1a (ZA hyZ1b cZ2)) V99.eq_1
 · obtain ⟨cZ3,h⟩ | ⟨cZ3,h⟩:=cond_s h
   · cases h
     exact ZL (ZA hyZ1a (ZA hyZ1b (ZA cZ2 cZ3))) V99.eq_1
   · cases h
     exact ZL (ZA hyZ1a (ZA hyZ1b (ZA cZ2 cZ3))) V99.eq_1
def S_w (lZ0:List Int) (nZ0:Int) (v:Int):St:=⟨[(0,.lst .o 1 (lZ0.map AV.i)),(1,.i nZ0),(5,.i v)],[]⟩
def SX_w (v:Unit):St:=⟨[],[]⟩
theorem w_w (lZ0:List Int) (nZ0:Int) (sZ1:Int) (o:Int ⊕ (Unit ⊕ Bool)) (h:M_w lZ0 nZ0 sZ1=some o):AWP (OkS Try.prog) A60L1 (qL [0,1,5] [] (S_w lZ0 nZ0) (qS (qX 0 [] [] (SX_w)) (qR V60 (fun r=>.b r))) o) (S_w lZ0 nZ0 sZ1):=by
 unfold M_w at h
 simp only [ZC,S_w,A60L1]
 obtain ⟨cZ2,h⟩ | ⟨cZ2,h⟩:=cond_s h
 · obtain ⟨yZ3,hyZ3,h⟩:=bind_s h
   obtain ⟨hyZ3a,hyZ3b⟩:=geti_s hyZ3
   obtain ⟨cZ4,h⟩ | ⟨cZ4,h⟩:=cond_s h
   · cases h
     exact ZL (ZA cZ2 (ZA hyZ3a (ZA hyZ3b cZ4))) V60.eq_1
   · cases h
     exact ZL (ZA cZ2 (ZA hyZ3a (ZA hyZ3b cZ4))) (ZA S_w.eq_1 SX_w.eq_1)
 · cases h
   exact ZL cZ2 (ZA S_w.eq_1 SX_w.eq_1)
theorem w_aw (lZ0:List Int) (nZ0:Int) {r:Bool} (h:M_aw lZ0 nZ0=some r):Ok Try.prog 60 [.lst .o 1 (lZ0.map AV.i),.i nZ0] ((fun r=>.b r) r):=by
 refine ok_of_body hmix m60 rfl ?_
 unfold M_aw at h
 simp only [ZC,A60,V60,body_eq]
 obtain ⟨oZ5,hoZ5,h⟩:=bind_s h
 try refine ZF trivial ?_
 refine join_rule (o:=oZ5) (blk_rule sideR (loop_rule (w_w lZ0 nZ0) hoZ5 ?_)) (fun vZ6 hv=>?_) (fun xZ7 hv e τ hne hq=>?_)
 · exact ZK (ZA S_w.eq_1 SX_w.eq_1)
 · subst hv
   simp only [] at h
   simp only [ZC,SX_w,A60R2]
   cases h
   exact ZL trivial V60.eq_1
 · subst hv
   simp only [] at h
   obtain ⟨rfl,qZ8⟩:=hq
   cases h
   exact qZ8
theorem w_be (lZ0:List Int) {r:List Int} (h:M_be lZ0=some r):Ok Try.prog 111 [.lst .o 1 (lZ0.map AV.i)] ((fun r=>.lst .u 1 (r.map AV.i)) r):=by
 refine ok_of_body hmix m111 rfl ?_
 unfold M_be at h
 simp only [ZC,A111,V111,body_eq]
 obtain ⟨uZ1,huZ1,h⟩:=bind_s h
 have huZ1g:=grd_s huZ1
 cases h
 exact ZL huZ1g V111.eq_1
def S_x (ringZ0:List Int) (v:Int×List Int):St:=⟨[(0,.lst .o 1 (ringZ0.map AV.i)),(3,.sl 3 0 v.2.length),(4,.i v.1)],[(3,.arr 1 (v.2.map AV.i))]⟩
def SX_x (v:List Int):St:=⟨[(3,.sl 3 0 v.length)],[(3,.arr 1 (v.map AV.i))]⟩
theorem w_x (ringZ0:List Int) (sZ1:Int×List Int) (o:(Int×List Int) ⊕ (List Int)) (h:M_x ringZ0 sZ1=some o):AWP (OkS Try.prog) A78L1 (qL [0,3,4] [3] (S_x ringZ0) (qX 0 [3] [3] (SX_x)) o) (S_x ringZ0 sZ1):=by
 unfold M_x at h
 simp only [ZC,S_x,A78L1]
 obtain ⟨cZ2,h⟩ | ⟨cZ2,h⟩:=cond_s h
 · obtain ⟨yZ3,hyZ3,h⟩:=bind_s h
   obtain ⟨hyZ3a,hyZ3b⟩:=geti_s hyZ3
   obtain ⟨lZ4,hlZ4,h⟩:=bnd_s h
   have eZ5:Row.arr 1 [(.i yZ3:AV)]=Row.arr 1 (lZ4.map AV.i):=by rw [← hlZ4]; rfl
   have jjZ6:lZ4.length=1:=by rw [← hlZ4]; rfl
   obtain ⟨uZ7,huZ7,h⟩:=bind_s h
   have huZ7g:=grd_s huZ7
   obtain ⟨lZ8,hlZ8,h⟩:=bnd_s h
   have eZ9:sZ1.2.map AV.i++lZ4.map AV.i=lZ8.map AV.i:=by rw [← hlZ8,List.map_append]
   have eZ10:sZ1.2.length+1=lZ8.length:=by simp [← hlZ4,← hlZ8] <;> omega
   rw [eZ10] at huZ7g
   cases h
   exact ZL (ZA cZ2 (ZA hyZ3a (ZA hyZ3b (ZA eZ5 (ZA jjZ6 (ZA huZ7g (ZA eZ9 eZ10))))))) (ZA S_x.eq_1 (ZA SX_x.eq_1 (ZA hlZ4.symm (ZA hlZ8.symm jjZ6))))
 · cases h
   exact ZL cZ2 (ZA S_x.eq_1 SX_x.eq_1)
theorem w_cl (ringZ0:List Int) {r:List Int} (h:M_cl ringZ0=some r):Ok Try.prog 78 [.lst .o 1 (ringZ0.map AV.i)] ((fun r=>.lst .u 1 (r.map AV.i)) r):=by
 refine ok_of_body hmix m78 rfl ?_
 unfold M_cl at h
 simp only [ZC,A78,V78,body_eq]
 obtain ⟨oZ11,hoZ11,h⟩:=bind_s h
 try refine ZF trivial ?_
 refine join_rule0 (blk_rule0 (loop_rule (w_x ringZ0) hoZ11 ?_)) ?_
 · exact ZK (ZA S_x.eq_1 SX_x.eq_1)
 · simp only [ZC,SX_x,A78R2]
   cases h
   exact ZL trivial V78.eq_1
def S_y (aZ0:List Int) (bZ0:List Int) (v:Int):St:=⟨[(0,.lst .o 1 (aZ0.map AV.i)),(1,.lst .o 1 (bZ0.map AV.i)),(5,.i v)],[]⟩
def SX_y (v:Unit):St:=⟨[],[]⟩
theorem w_y (aZ0:List Int) (bZ0:List Int) (sZ2:Int) (o:Int ⊕ (Unit ⊕ Bool)) (h:M_y aZ0 bZ0 sZ2=some o):AWP (OkS Try.prog) A77L1 (qL [0,1,5] [] (S_y aZ0 bZ0) (qS (qX 0 [] [] (SX_y)) (qR V77 (fun r=>.b r))) o) (S_y aZ0 bZ0 sZ2):=by
 unfold M_y at h
 simp only [ZC,S_y,A77L1]
 obtain ⟨cZ3,h⟩ | ⟨cZ3,h⟩:=cond_s h
 · obtain ⟨yZ4,hyZ4,h⟩:=bind_s h
   obtain ⟨hyZ4a,hyZ4b⟩:=geti_s hyZ4
   obtain ⟨yZ5,hyZ5,h⟩:=bind_s h
   obtain ⟨hyZ5a,hyZ5b⟩:=geti_s hyZ5
   obtain ⟨cZ6,h⟩ | ⟨cZ6,h⟩:=cond_s h
   · cases h
     exact ZL (ZA cZ3 (ZA hyZ4a (ZA hyZ4b (ZA hyZ5a (ZA hyZ5b cZ6))))) V77.eq_1
   · cases h
     exact ZL (ZA cZ3 (ZA hyZ4a (ZA hyZ4b (ZA hyZ5a (ZA hyZ5b cZ6))))) (ZA S_y.eq_1 SX_y.eq_1)
 · cases h
   exact ZL cZ3 (ZA S_y.eq_1 SX_y.eq_1)
theorem w_av (aZ0:List Int) (bZ0:List Int) {r:Bool} (h:M_av aZ0 bZ0=some r):Ok Try.prog 77 [.lst .o 1 (aZ0.map AV.i),.lst .o 1 (bZ0.map AV.i)] ((fun r=>.b r) r):=by
 refine ok_of_body hmix m77 rfl ?_
 unfold M_av at h
 simp only [ZC,A77,V77,body_eq]
 obtain ⟨cZ1,h⟩ | ⟨cZ1,h⟩:=cond_s h
 · cases h
   exact ZL cZ1 V77.eq_1
 · obtain ⟨oZ7,hoZ7,h⟩:=bind_s h
   try refine ZF cZ1 ?_
   refine join_rule (o:=oZ7) (blk_rule sideR (loop_rule (w_y aZ0 bZ0) hoZ7 ?_)) (fun vZ8 hv=>?_) (fun xZ9 hv e τ hne hq=>?_)
   · exact ZK (ZA S_y.eq_1 SX_y.eq_1)
   · subst hv
     simp only [] at h
     simp only [ZC,SX_y,A77R2]
     cases h
     exact ZL cZ1 V77.eq_1
   · subst hv
     simp only [] at h
     obtain ⟨rfl,qZ10⟩:=hq
     cases h
     exact qZ10
def S_k (aaZ0:List (List Int)) (abZ0:List Int) (v:Int):St:=⟨[(0,.sl 1000000000 0 aaZ0.length),(1,.lst .m 1 (abZ0.map AV.i)),(5,.i v)],[(1000000000,.arr 1 (aaZ0.map (e_Li .m)))]⟩
def SX_k (aaZ0:List (List Int)) (abZ0:List Int) (v:Int):St:=⟨[(0,.sl 1000000000 0 aaZ0.length),(1,.lst .m 1 (abZ0.map AV.i)),(5,.i v)],[(1000000000,.arr 1 (aaZ0.map (e_Li .m)))]⟩
theorem w_k (aaZ0:List (List Int)) (abZ0:List Int) (sZ1:Int) (o:Int ⊕ Int) (h:M_k aaZ0 abZ0 sZ1=some o):AWP (OkS Try.prog) A112M3L1 (qL [0,1,5] [1000000000] (S_k aaZ0 abZ0) (qX 0 [0,1,5] [1000000000] (SX_k aaZ0 abZ0)) o) (S_k aaZ0 abZ0 sZ1):=by
 unfold M_k at h
 simp only [ZC,S_k,A112M3L1]
 obtain ⟨cZ2,h⟩ | ⟨cZ2,h⟩:=cond_s h
 · obtain ⟨kZ3,hkZ3,h⟩:=bind_s h
   obtain ⟨hkZ3a,hkZ3b⟩:=grd_s hkZ3
   obtain ⟨yZ4,hyZ4,h⟩:=bind_s h
   obtain ⟨rZ5,hrZ5,h⟩:=bind_s h
   refine ZF (ZA cZ2 (ZA hkZ3a (ZA hkZ3b hyZ4))) ?_
   refine ZS (ZA cZ2 (ZA hkZ3a (ZA hkZ3b hyZ4))) (w_av _ _ hrZ5) ?_
   refine ZG ?_
   obtain ⟨cZ6,h⟩ | ⟨cZ6,h⟩:=cond_s h
   · cases h
     exact ZL (ZA cZ2 (ZA hkZ3a (ZA hkZ3b (ZA hyZ4 cZ6)))) (ZA S_k.eq_1 SX_k.eq_1)
   · cases h
     exact ZL (ZA cZ2 (ZA hkZ3a (ZA hkZ3b (ZA hyZ4 cZ6)))) (ZA S_k.eq_1 SX_k.eq_1)
 · cases h
   exact ZL cZ2 (ZA S_k.eq_1 SX_k.eq_1)
theorem w_bx (aaZ0:List (List Int)) (abZ0:List Int) {r:List (List Int)×List (List Int)} (h:M_bx aaZ0 abZ0=some r):OkM Try.prog 112 [.sl 1000000000 0 aaZ0.length,.sl 1000000001 0 abZ0.length] [(1000000000,.arr 1 (aaZ0.map (e_Li .m))),(1000000001,.arr 1 (abZ0.map AV.i))] ((fun (r:List (List Int)×List (List Int))=>.sl 4 0 r.1.length) r) ((fun (r:List (List Int)×List (List Int))=>[(4,.arr 1 (r.1.map (e_Li .m))),(1000000000,.arr 1 (r.2.map (e_Li .m)))]) r):=by
 refine okM_of_body (lr:=[4,1000000000]) hmix m112M3 rfl rfl ?_
 unfold M_bx at h
 simp only [ZC,A112M3,V112M3]
 obtain ⟨oZ7,hoZ7,h⟩:=bind_s h
 try refine ZF trivial ?_
 refine join_rule0 (blk_rule0 (loop_rule (w_k aaZ0 abZ0) hoZ7 ?_)) ?_
 · exact ZK (ZA S_k.eq_1 SX_k.eq_1)
 · simp only [ZC,SX_k,A112M3R2]
   obtain ⟨uZ8,huZ8,h⟩:=bind_s h
   obtain ⟨huZ8a,huZ8b,huZ8c,huZ8d⟩:=grd_s huZ8
   obtain ⟨lZ9,hlZ9,h⟩:=bnd_s h
   have eZ10:sub (aaZ0.map (e_Li .m)) 0 (Int.toNat oZ7)=lZ9.map (e_Li .m):=by rw [sub_mapT,hlZ9]
   obtain ⟨uZ11,huZ11,h⟩:=bind_s h
   have huZ11g:=grd_s huZ11
   obtain ⟨lZ12,hlZ12,h⟩:=bnd_s h
   have eZ13:Row.arr 1 [(.lst .m 1 (abZ0.map AV.i):AV)]=Row.arr 1 (lZ12.map (e_Li .m)):=by rw [← hlZ12]; rfl
   have jjZ14:lZ12.length=1:=by rw [← hlZ12]; rfl
   obtain ⟨uZ15,huZ15,h⟩:=bind_s h
   have huZ15g:=grd_s huZ15
   obtain ⟨lZ16,hlZ16,h⟩:=bnd_s h
   have eZ17:lZ9.map (e_Li .m)++lZ12.map (e_Li .m)=lZ16.map (e_Li .m):=by rw [← hlZ16,List.map_append]
   have eZ18:lZ9.length+1=lZ16.length:=by simp [← hlZ12,← hlZ16] <;> omega
   rw [eZ18] at huZ15g
   obtain ⟨uZ19,huZ19,h⟩:=bind_s h
   obtain ⟨huZ19a,huZ19b,huZ19c,huZ19d⟩:=grd_s huZ19
   obtain ⟨lZ20,hlZ20,h⟩:=bnd_s h
   have eZ21:sub (aaZ0.map (e_Li .m)) (Int.toNat oZ7) (aaZ0.length - (Int.toNat oZ7))=lZ20.map (e_Li .m):=by rw [sub_mapT,hlZ20]
   obtain ⟨uZ22,huZ22,h⟩:=bind_s h
   have huZ22g:=grd_s huZ22
   obtain ⟨lZ23,hlZ23,h⟩:=bnd_s h
   have eZ24:lZ16.map (e_Li .m)++lZ20.map (e_Li .m)=lZ23.map (e_Li .m):=by rw [← hlZ23,List.map_append]
   have eZ25:lZ16.length+lZ20.length=lZ23.length:=by simp [← hlZ12,← hlZ16,← hlZ23] <;> omega
   rw [eZ25] at huZ22g
   cases h
   exact ZL (ZA huZ8a (ZA huZ8b (ZA huZ8c (ZA huZ8d (ZA eZ10 (ZA huZ11g (ZA eZ13 (ZA jjZ14 (ZA huZ15g (ZA eZ17 (ZA eZ18 (ZA huZ19a (ZA huZ19b (ZA huZ19c (ZA huZ19d (ZA eZ21 (ZA huZ22g (ZA eZ24 eZ25)))))))))))))))))) (ZA V112M3.eq_1 (ZA hlZ12.symm (ZA hlZ16.symm (ZA hlZ23.symm jjZ14))))
def S_b (aaZ0:Int) (abZ0:Int) (afZ0:List Int) (agZ0:List Int) (v:Int×List ByteArray×List TFiber×List (List Int)):St:=⟨[(0,.pt 1000000000 0 0),(1,.i aaZ0),(2,.i abZ0),(3,.sl 1000000002 0 afZ0.length),(4,.sl 1000000003 0 agZ0.length),(10,.i v.1)],[(470000002,.arr 1 (v.2.2.2.map (e_Li .m))),(1000000000,.var (.agg [.lst .m 1 (v.2.1.map AV.z),.lst .m 4 (v.2.2.1.map (e_TFiber .m)),.sl 470000002 0 v.2.2.2.length])),(1000000002,.arr 1 (afZ0.map AV.i)),(1000000003,.arr 1 (agZ0.map AV.i))]⟩
def SX_b (afZ0:List Int) (agZ0:List Int) (v:List ByteArray×List TFiber×List (List Int)):St:=⟨[],[(470000002,.arr 1 (v.2.2.map (e_Li .m))),(1000000000,.var (.agg [.lst .m 1 (v.1.map AV.z),.lst .m 4 (v.2.1.map (e_TFiber .m)),.sl 470000002 0 v.2.2.length])),(1000000002,.arr 1 (afZ0.map AV.i)),(1000000003,.arr 1 (agZ0.map AV.i))]⟩
theorem w_b (aaZ0:Int) (abZ0:Int) (acZ0:List ByteArray) (adZ0:List TFiber) (aeZ0:List (List Int)) (afZ0:List Int) (agZ0:List Int) (rcZ0:Int→Int→List ByteArray→List TFiber→List (List Int)→List Int→List Int→Option (List ByteArray×List TFiber×List (List Int)×List Int×List Int)) (ihZ0:∀ (aaZ0:Int) (abZ0:Int) (acZ0:List ByteArray) (adZ0:List TFiber) (aeZ0:List (List Int)) (afZ0:List Int) (agZ0:List Int) {r:List ByteArray×List TFiber×List (List Int)×List Int×List Int},rcZ0 aaZ0 abZ0 acZ0 adZ0 aeZ0 afZ0 agZ0=some r→OkM Try.prog 92 [.pt 1000000000 0 0,.i aaZ0,.i abZ0,.sl 1000000002 0 afZ0.length,.sl 1000000003 0 agZ0.length] [(1000000000,.var (.agg [.lst .m 1 (acZ0.map AV.z),.lst .m 4 (adZ0.map (e_TFiber .m)),.sl 1000000001 0 aeZ0.length])),(1000000001,.arr 1 (aeZ0.map (e_Li .m))),(1000000002,.arr 1 (afZ0.map AV.i)),(1000000003,.arr 1 (agZ0.map AV.i))] ((fun (r:List ByteArray×List TFiber×List (List Int)×List Int×List Int)=>.tup []) r) ((fun (r:List ByteArray×List TFiber×List (List Int)×List Int×List Int)=>[(470000002,.arr 1 (r.2.2.1.map (e_Li .m))),(1000000000,.var (.agg [.lst .m 1 (r.1.map AV.z),.lst .m 4 (r.2.1.map (e_TFiber .m)),.sl 470000002 0 r.2.2.1.length])),(1000000002,.arr 1 (r.2.2.2.1.map AV.i)),(1000000003,.arr 1 (r.2.2.2.2.map AV.i))]) r)) (sZ1:Int×List ByteArray×List TFiber×List (List Int)) (o:(Int×List ByteArray×List TFiber×List (List Int)) ⊕ (List ByteArray×List TFiber×List (List Int))) (h:M_b aaZ0 abZ0 afZ0 agZ0 rcZ0 sZ1=some o):AWP (OkS Try.prog) A92M7L5 (qL [0,1,2,3,4,10] [470000002,1000000000,1000000002,1000000003] (S_b aaZ0 abZ0 afZ0 agZ0) (qX 0 [] [470000002,1000000000,1000000002,1000000003] (SX_b afZ0 agZ0)) o) (S_b aaZ0 abZ0 afZ0 agZ0 sZ1):=by
 unfold M_b at h
 simp only [ZC,S_b,A92M7L5]
 obtain ⟨oZ3,hoZ3,h⟩:=bind_s h
 try refine ZF trivial ?_
 refine join_rule0 (sh:=(fun v=>⟨[(0,.pt 1000000000 0 0),(1,.i aaZ0),(2,.i abZ0),(3,.sl 1000000002 0 afZ0.length),(4,.sl 1000000003 0 agZ0.length),(10,.i sZ1.1),(28,.b v)],[(470000002,.arr 1 (sZ1.2.2.2.map (e_Li .m))),(1000000000,.var (.agg [.lst .m 1 (sZ1.2.1.map AV.z),.lst .m 4 (sZ1.2.2.1.map (e_TFiber .m)),.sl 470000002 0 sZ1.2.2.2.length])),(1000000002,.arr 1 (afZ0.map AV.i)),(1000000003,.arr 1 (agZ0.map AV.i))]⟩)) (s:=oZ3) ?_ ?_
 · replace h:=hoZ3
   obtain ⟨cZ2,h⟩ | ⟨cZ2,h⟩:=cond_s h
   · cases h
     exact ZL cZ2 trivial
   · cases h
     exact ZL cZ2 trivial
 · simp only [ZC,A92M7R1]
   obtain ⟨cZ4,h⟩ | ⟨cZ4,h⟩:=cond_s h
   · obtain ⟨rZ5,hrZ5,h⟩:=bind_s h
     refine ZF cZ4 ?_
     refine ZS cZ4 (w_bi _ _ _ hrZ5) ?_
     refine ZG ?_
     obtain ⟨oZ8,hoZ8,h⟩:=bind_s h
     try refine ZF cZ4 ?_
     refine join_rule0 (sh:=(fun v=>⟨[(0,.pt 1000000000 0 0),(1,.i aaZ0),(2,.i abZ0),(3,.sl 1000000002 0 afZ0.length),(4,.sl 1000000003 0 agZ0.length),(10,.i sZ1.1),(11,.i rZ5),(45,.b v)],[(470000002,.arr 1 (sZ1.2.2.2.map (e_Li .m))),(1000000000,.var (.agg [.lst .m 1 (sZ1.2.1.map AV.z),.lst .m 4 (sZ1.2.2.1.map (e_TFiber .m)),.sl 470000002 0 sZ1.2.2.2.length])),(1000000002,.arr 1 (afZ0.map AV.i)),(1000000003,.arr 1 (agZ0.map AV.i))]⟩)) (s:=oZ8) ?_ ?_
     · replace h:=hoZ8
       obtain ⟨cZ6,h⟩ | ⟨cZ6,h⟩:=cond_s h
       · cases h
         exact ZL (ZA cZ4 cZ6) trivial
       · obtain ⟨rZ7,hrZ7,h⟩:=bind_s h
         refine ZF (ZA cZ4 cZ6) ?_
         refine ZS (ZA cZ4 cZ6) (w_aw _ _ hrZ7) ?_
         refine ZG ?_
         cases h
         exact ZL (ZA cZ4 cZ6) trivial
     · simp only [ZC,A92M7R2]
       obtain ⟨cZ9,h⟩ | ⟨cZ9,h⟩:=cond_s h
       · cases h
         exact ZL (ZA cZ4 cZ9) (ZA S_b.eq_1 SX_b.eq_1)
       · obtain ⟨rZ10,hrZ10,h⟩:=bind_s h
         refine ZF (ZA cZ4 cZ9) ?_
         refine ZU (ZA cZ4 cZ9) (w_be _ hrZ10) ?_
         refine ZG ?_
         obtain ⟨lZ11,hlZ11,h⟩:=bnd_s h
         have eZ12:Row.arr 1 [(.i sZ1.1:AV)]=Row.arr 1 (lZ11.map AV.i):=by rw [← hlZ11]; rfl
         have jjZ13:lZ11.length=1:=by rw [← hlZ11]; rfl
         obtain ⟨uZ14,huZ14,h⟩:=bind_s h
         have huZ14g:=grd_s huZ14
         obtain ⟨lZ15,hlZ15,h⟩:=bnd_s h
         have eZ16:rZ10.map AV.i++lZ11.map AV.i=lZ15.map AV.i:=by rw [← hlZ15,List.map_append]
         have eZ17:rZ10.length+1=lZ15.length:=by simp [← hlZ11,← hlZ15] <;> omega
         rw [eZ17] at huZ14g
         obtain ⟨cZ18,h⟩ | ⟨cZ18,h⟩:=cond_s h
         · obtain ⟨oZ25,hoZ25,h⟩:=bind_s h
           try refine ZF (ZA cZ4 (ZA cZ9 (ZA eZ12 (ZA jjZ13 (ZA huZ14g (ZA eZ16 (ZA eZ17 cZ18))))))) ?_
           refine join_rule0 (sh:=(fun v=>⟨[(0,.pt 1000000000 0 0),(1,.i aaZ0),(2,.i abZ0),(3,.sl 1000000002 0 afZ0.length),(4,.sl 1000000003 0 agZ0.length),(10,.i sZ1.1)],[(470000002,.arr 1 (v.map (e_Li .m))),(1000000000,.var (.agg [.lst .m 1 (sZ1.2.1.map AV.z),.lst .m 4 (sZ1.2.2.1.map (e_TFiber .m)),.sl 470000002 0 v.length])),(1000000002,.arr 1 (afZ0.map AV.i)),(1000000003,.arr 1 (agZ0.map AV.i))]⟩)) (s:=oZ25) ?_ ?_
           · replace h:=hoZ25
             obtain ⟨oZ22,hoZ22,h⟩:=bind_s h
             try refine ZF (ZA cZ4 (ZA cZ9 (ZA eZ12 (ZA jjZ13 (ZA huZ14g (ZA eZ16 (ZA eZ17 cZ18))))))) ?_
             refine join_rule0 (sh:=(fun v=>⟨[(0,.pt 1000000000 0 0),(1,.i aaZ0),(2,.i abZ0),(3,.sl 1000000002 0 afZ0.length),(4,.sl 1000000003 0 agZ0.length),(10,.i sZ1.1),(12,.sl 12 0 lZ15.length),(63,.b v)],[(12,.arr 1 (lZ15.map AV.i)),(470000002,.arr 1 (sZ1.2.2.2.map (e_Li .m))),(1000000000,.var (.agg [.lst .m 1 (sZ1.2.1.map AV.z),.lst .m 4 (sZ1.2.2.1.map (e_TFiber .m)),.sl 470000002 0 sZ1.2.2.2.length])),(1000000002,.arr 1 (afZ0.map AV.i)),(1000000003,.arr 1 (agZ0.map AV.i))]⟩)) (s:=oZ22) ?_ ?_
             · replace h:=hoZ22
               obtain ⟨cZ19,h⟩ | ⟨cZ19,h⟩:=cond_s h
               · obtain ⟨rZ20,hrZ20,h⟩:=bind_s h
                 refine ZF (ZA cZ4 (ZA cZ9 (ZA eZ12 (ZA jjZ13 (ZA huZ14g (ZA eZ16 (ZA eZ17 (ZA cZ18 cZ19)))))))) ?_
                 refine ZU (ZA cZ4 (ZA cZ9 (ZA eZ12 (ZA jjZ13 (ZA huZ14g (ZA eZ16 (ZA eZ17 (ZA cZ18 cZ19)))))))) (w_cl _ hrZ20) ?_
                 refine ZG ?_
                 obtain ⟨rZ21,hrZ21,h⟩:=bind_s h
                 refine ZF (ZA cZ4 (ZA cZ9 (ZA eZ12 (ZA jjZ13 (ZA huZ14g (ZA eZ16 (ZA eZ17 (ZA cZ18 cZ19)))))))) ?_
                 refine ZS (ZA cZ4 (ZA cZ9 (ZA eZ12 (ZA jjZ13 (ZA huZ14g (ZA eZ16 (ZA eZ17 (ZA cZ18 cZ19)))))))) (w_av _ _ hrZ21) ?_
                 refine ZG ?_
                 cases h
                 exact ZL (ZA cZ4 (ZA cZ9 (ZA eZ12 (ZA jjZ13 (ZA huZ14g (ZA eZ16 (ZA eZ17 (ZA cZ18 cZ19)))))))) (ZA hlZ11.symm (ZA hlZ15.symm jjZ13))
               · cases h
                 exact ZL (ZA cZ4 (ZA cZ9 (ZA eZ12 (ZA jjZ13 (ZA huZ14g (ZA eZ16 (ZA eZ17 (ZA cZ18 cZ19)))))))) (ZA hlZ11.symm (ZA hlZ15.symm jjZ13))
             · simp only [ZC,A92M7R3]
               obtain ⟨cZ23,h⟩ | ⟨cZ23,h⟩:=cond_s h
               · obtain ⟨rZ24,hrZ24,h⟩:=bind_s h
                 refine ZF (ZA cZ4 (ZA cZ9 (ZA eZ12 (ZA jjZ13 (ZA huZ14g (ZA eZ16 (ZA eZ17 (ZA cZ18 cZ23)))))))) ?_
                 refine ZW (ZA cZ4 (ZA cZ9 (ZA eZ12 (ZA jjZ13 (ZA huZ14g (ZA eZ16 (ZA eZ17 (ZA cZ18 cZ23)))))))) (w_bx _ _ hrZ24) (h2:=by first | exact nm_ok [4,1000000000] rfl (by decide +kernel) | exact nm_ok2 [4,1000000000] [7100004] rfl (by decide +kernel) ZQ | exact ZQ) (hk:=?_)
                 refine ZG ?_
                 cases h
                 exact ZL (ZA cZ4 (ZA cZ9 (ZA eZ12 (ZA jjZ13 (ZA huZ14g (ZA eZ16 (ZA eZ17 (ZA cZ18 cZ23)))))))) jjZ13
               · cases h
                 exact ZL (ZA cZ4 (ZA cZ9 (ZA eZ12 (ZA jjZ13 (ZA huZ14g (ZA eZ16 (ZA eZ17 (ZA cZ18 cZ23)))))))) jjZ13
           · simp only [ZC,A92M7R4]
             cases h
             exact ZL (ZA cZ4 (ZA cZ9 (ZA eZ12 (ZA jjZ13 (ZA huZ14g (ZA eZ16 (ZA eZ17 cZ18))))))) (ZA S_b.eq_1 (ZA SX_b.eq_1 jjZ13))
         · obtain ⟨rZ26,hrZ26,h⟩:=bind_s h
           refine ZF (ZA cZ4 (ZA cZ9 (ZA eZ12 (ZA jjZ13 (ZA huZ14g (ZA eZ16 (ZA eZ17 cZ18))))))) ?_
           refine ZS (ZA cZ4 (ZA cZ9 (ZA eZ12 (ZA jjZ13 (ZA huZ14g (ZA eZ16 (ZA eZ17 cZ18))))))) (w_aw _ _ hrZ26) ?_
           refine ZG ?_
           obtain ⟨cZ27,h⟩ | ⟨cZ27,h⟩:=cond_s h
           · obtain ⟨rZ28,hrZ28,h⟩:=bind_s h
             refine ZF (ZA cZ4 (ZA cZ9 (ZA eZ12 (ZA jjZ13 (ZA huZ14g (ZA eZ16 (ZA eZ17 (ZA cZ18 cZ27)))))))) ?_
             refine ZU (ZA cZ4 (ZA cZ9 (ZA eZ12 (ZA jjZ13 (ZA huZ14g (ZA eZ16 (ZA eZ17 (ZA cZ18 cZ27)))))))) (w_be _ hrZ28) ?_
             refine ZG ?_
             obtain ⟨lZ29,hlZ29,h⟩:=bnd_s h
             have eZ30:Row.arr 1 [(.i rZ5:AV)]=Row.arr 1 (lZ29.map AV.i):=by rw [← hlZ29]; rfl
             have jjZ31:lZ29.length=1:=by rw [← hlZ29]; rfl
             obtain ⟨uZ32,huZ32,h⟩:=bind_s h
             have huZ32g:=grd_s huZ32
             obtain ⟨lZ33,hlZ33,h⟩:=bnd_s h
             have eZ34:rZ28.map AV.i++lZ29.map AV.i=lZ33.map AV.i:=by rw [← hlZ33,List.map_append]
             have eZ35:rZ28.length+1=lZ33.length:=by simp [← hlZ11,← hlZ15,← hlZ29,← hlZ33] <;> omega
             rw [eZ35] at huZ32g
             obtain ⟨rZ36,hrZ36,h⟩:=bind_s h
             refine ZF (ZA cZ4 (ZA cZ9 (ZA eZ12 (ZA jjZ13 (ZA huZ14g (ZA eZ16 (ZA eZ17 (ZA cZ18 (ZA cZ27 (ZA eZ30 (ZA jjZ31 (ZA huZ32g (ZA eZ34 eZ35))))))))))))) ?_
             refine ZW (ZA cZ4 (ZA cZ9 (ZA eZ12 (ZA jjZ13 (ZA huZ14g (ZA eZ16 (ZA eZ17 (ZA cZ18 (ZA cZ27 (ZA eZ30 (ZA jjZ31 (ZA huZ32g (ZA eZ34 eZ35))))))))))))) (ihZ0 _ _ _ _ _ _ _ hrZ36) (h2:=by first | exact nm_ok [470000002,1000000000,1000000002,1000000003] rfl (by decide +kernel) | exact nm_ok2 [470000002,1000000000,1000000002,1000000003] [478700002] rfl (by decide +kernel) ZQ | exact ZQ) (hk:=?_)
             refine ZG ?_
             cases h
             exact ZL (ZA cZ4 (ZA cZ9 (ZA eZ12 (ZA jjZ13 (ZA huZ14g (ZA eZ16 (ZA eZ17 (ZA cZ18 (ZA cZ27 (ZA eZ30 (ZA jjZ31 (ZA huZ32g (ZA eZ34 eZ35))))))))))))) (ZA S_b.eq_1 (ZA SX_b.eq_1 (ZA hlZ11.symm (ZA hlZ15.symm (ZA hlZ29.symm (ZA hlZ33.symm (ZA jjZ13 jjZ31)))))))
           · cases h
             exact ZL (ZA cZ4 (ZA cZ9 (ZA eZ12 (ZA jjZ13 (ZA huZ14g (ZA eZ16 (ZA eZ17 (ZA cZ18 cZ27)))))))) (ZA S_b.eq_1 (ZA SX_b.eq_1 (ZA hlZ11.symm (ZA hlZ15.symm jjZ13))))
   · cases h
     exact ZL cZ4 (ZA S_b.eq_1 SX_b.eq_1)
theorem wB_ba (rcZ0:Int→Int→List ByteArray→List TFiber→List (List Int)→List Int→List Int→Option (List ByteArray×List TFiber×List (List Int)×List Int×List Int)) (ihZ0:∀ (aaZ0:Int) (abZ0:Int) (acZ0:List ByteArray) (adZ0:List TFiber) (aeZ0:List (List Int)) (afZ0:List Int) (agZ0:List Int) {r:List ByteArray×List TFiber×List (List Int)×List Int×List Int},rcZ0 aaZ0 abZ0 acZ0 adZ0 aeZ0 afZ0 agZ0=some r→OkM Try.prog 92 [.pt 1000000000 0 0,.i aaZ0,.i abZ0,.sl 1000000002 0 afZ0.length,.sl 1000000003 0 agZ0.length] [(1000000000,.var (.agg [.lst .m 1 (acZ0.map AV.z),.lst .m 4 (adZ0.map (e_TFiber .m)),.sl 1000000001 0 aeZ0.length])),(1000000001,.arr 1 (aeZ0.map (e_Li .m))),(1000000002,.arr 1 (afZ0.map AV.i)),(1000000003,.arr 1 (agZ0.map AV.i))] ((fun (r:List ByteArray×List TFiber×List (List Int)×List Int×List Int)=>.tup []) r) ((fun (r:List ByteArray×List TFiber×List (List Int)×List Int×List Int)=>[(470000002,.arr 1 (r.2.2.1.map (e_Li .m))),(1000000000,.var (.agg [.lst .m 1 (r.1.map AV.z),.lst .m 4 (r.2.1.map (e_TFiber .m)),.sl 470000002 0 r.2.2.1.length])),(1000000002,.arr 1 (r.2.2.2.1.map AV.i)),(1000000003,.arr 1 (r.2.2.2.2.map AV.i))]) r)) (aaZ0:Int) (abZ0:Int) (acZ0:List ByteArray) (adZ0:List TFiber) (aeZ0:List (List Int)) (afZ0:List Int) (agZ0:List Int) {r:List ByteArray×List TFiber×List (List Int)×List Int×List Int} (h:M_by rcZ0 aaZ0 abZ0 acZ0 adZ0 aeZ0 afZ0 agZ0=some r):OkM Try.prog 92 [.pt 1000000000 0 0,.i aaZ0,.i abZ0,.sl 1000000002 0 afZ0.length,.sl 1000000003 0 agZ0.length] [(1000000000,.var (.agg [.lst .m 1 (acZ0.map AV.z),.lst .m 4 (adZ0.map (e_TFiber .m)),.sl 1000000001 0 aeZ0.length])),(1000000001,.arr 1 (aeZ0.map (e_Li .m))),(1000000002,.arr 1 (afZ0.map AV.i)),(1000000003,.arr 1 (agZ0.map AV.i))] ((fun (r:List ByteArray×List TFiber×List (List Int)×List Int×List Int)=>.tup []) r) ((fun (r:List ByteArray×List TFiber×List (List Int)×List Int×List Int)=>[(470000002,.arr 1 (r.2.2.1.map (e_Li .m))),(1000000000,.var (.agg [.lst .m 1 (r.1.map AV.z),.lst .m 4 (r.2.1.map (e_TFiber .m)),.sl 470000002 0 r.2.2.1.length])),(1000000002,.arr 1 (r.2.2.2.1.map AV.i)),(1000000003,.arr 1 (r.2.2.2.2.map AV.i))]) r):=by
 refine okM_of_body (lr:=[470000002,1000000000,1000000002,1000000003]) hmix m92M7 rfl rfl ?_
 unfold M_by at h
 simp only [ZC,A92M7,V92M7]
 obtain ⟨oZ37,hoZ37,h⟩:=bind_s h
 try refine ZF trivial ?_
 first | refine tail_rule0 (blk_rule0 (loop_rule (w_b aaZ0 abZ0 acZ0 adZ0 aeZ0 afZ0 agZ0 rcZ0 ihZ0) hoZ37 ?_)) (fun τ qZ38=>?_) | refine tail_blk0 (loop_rule (w_b aaZ0 abZ0 acZ0 adZ0 aeZ0 afZ0 agZ0 rcZ0 ihZ0) hoZ37 ?_) (fun τ qZ38=>?_)
 · exact ZK (ZA S_b.eq_1 SX_b.eq_1)
 · cases h
   refine finM_shp qZ38 (by decide) ?_ rfl
   exact ZK (ZA V92M7.eq_1 SX_b.eq_1)
theorem w_ba:∀ (n:Nat) (aaZ0:Int) (abZ0:Int) (acZ0:List ByteArray) (adZ0:List TFiber) (aeZ0:List (List Int)) (afZ0:List Int) (agZ0:List Int) {r:List ByteArray×List TFiber×List (List Int)×List Int×List Int} (_:M_ba n aaZ0 abZ0 acZ0 adZ0 aeZ0 afZ0 agZ0=some r),OkM Try.prog 92 [.pt 1000000000 0 0,.i aaZ0,.i abZ0,.sl 1000000002 0 afZ0.length,.sl 1000000003 0 agZ0.length] [(1000000000,.var (.agg [.lst .m 1 (acZ0.map AV.z),.lst .m 4 (adZ0.map (e_TFiber .m)),.sl 1000000001 0 aeZ0.length])),(1000000001,.arr 1 (aeZ0.map (e_Li .m))),(1000000002,.arr 1 (afZ0.map AV.i)),(1000000003,.arr 1 (agZ0.map AV.i))] ((fun (r:List ByteArray×List TFiber×List (List Int)×List Int×List Int)=>.tup []) r) ((fun (r:List ByteArray×List TFiber×List (List Int)×List Int×List Int)=>[(470000002,.arr 1 (r.2.2.1.map (e_Li .m))),(1000000000,.var (.agg [.lst .m 1 (r.1.map AV.z),.lst .m 4 (r.2.1.map (e_TFiber .m)),.sl 470000002 0 r.2.2.1.length])),(1000000002,.arr 1 (r.2.2.2.1.map AV.i)),(1000000003,.arr 1 (r.2.2.2.2.map AV.i))]) r)
 | 0,aaZ0,abZ0,acZ0,adZ0,aeZ0,afZ0,agZ0,_,h=>by cases h
 | n+1,aaZ0,abZ0,acZ0,adZ0,aeZ0,afZ0,agZ0,_,h=>wB_ba (M_ba n) (w_ba n) aaZ0 abZ0 acZ0 adZ0 aeZ0 afZ0 agZ0 h
def S_al (aaZ0:List ByteArray) (abZ0:List TFiber) (v:Int×List ByteArray×List TFiber×List (List Int)):St:=⟨[(1,.pt 1 0 0),(3,.pt 8 0 0),(4,.i v.1)],[(1,.var (.agg [.lst .m 1 (aaZ0.map AV.z),.lst .m 4 (abZ0.map (e_TFiber .m))])),(8,.var (.agg [.lst .m 1 (v.2.1.map AV.z),.lst .m 4 (v.2.2.1.map (e_TFiber .m)),.sl 500000514 0 v.2.2.2.length])),(500000514,.arr 1 (v.2.2.2.map (e_Li .m)))]⟩
def SX_al (v:List ByteArray×List TFiber×List (List Int)):St:=⟨[(3,.pt 8 0 0)],[(8,.var (.agg [.lst .m 1 (v.1.map AV.z),.lst .m 4 (v.2.1.map (e_TFiber .m)),.sl 500000514 0 v.2.2.length])),(500000514,.arr 1 (v.2.2.map (e_Li .m)))]⟩
theorem w_al (aaZ0:List ByteArray) (abZ0:List TFiber) (sZ1:Int×List ByteArray×List TFiber×List (List Int)) (o:(Int×List ByteArray×List TFiber×List (List Int)) ⊕ (List ByteArray×List TFiber×List (List Int))) (h:M_al aaZ0 sZ1=some o):AWP (OkS Try.prog) A58M2L1 (qL [1,3,4] [1,8,500000514] (S_al aaZ0 abZ0) (qX 0 [3] [8,500000514] (SX_al)) o) (S_al aaZ0 abZ0 sZ1):=by
 unfold M_al at h
 simp only [ZC,S_al,A58M2L1]
 obtain ⟨cZ2,h⟩ | ⟨cZ2,h⟩:=cond_s h
 · obtain ⟨lZ3,hlZ3,h⟩:=bnd_s h
   have eZ4:Row.arr 1 [(.i sZ1.1:AV)]=Row.arr 1 (lZ3.map AV.i):=by rw [← hlZ3]; rfl
   have jjZ5:lZ3.length=1:=by rw [← hlZ3]; rfl
   obtain ⟨rZ6,hrZ6,h⟩:=bind_s h
   refine ZF (ZA cZ2 (ZA eZ4 jjZ5)) ?_
   refine ZW (ZA cZ2 (ZA eZ4 jjZ5)) (w_ba N0 _ _ _ _ _ _ _ hrZ6) (h2:=by first | exact nm_ok [470000002,1000000000,1000000002,1000000003] rfl (by decide +kernel) | exact nm_ok2 [470000002,1000000000,1000000002,1000000003] [472300002] rfl (by decide +kernel) ZQ | exact ZQ) (hk:=?_)
   refine ZG ?_
   cases h
   exact ZL (ZA cZ2 (ZA eZ4 jjZ5)) (ZA S_al.eq_1 (ZA SX_al.eq_1 (ZA hlZ3.symm jjZ5)))
 · cases h
   exact ZL cZ2 (ZA S_al.eq_1 SX_al.eq_1)
theorem w_bz (aaZ0:List ByteArray) (abZ0:List TFiber) {r:List (List Int)} (h:M_bz aaZ0 abZ0=some r):OkM Try.prog 58 [.agg [.sl 1000000000 0 aaZ0.length,.sl 1000000001 0 abZ0.length]] [(1000000000,.arr 1 (aaZ0.map AV.z)),(1000000001,.arr 4 (abZ0.map (e_TFiber .u)))] ((fun (r:List (List Int))=>.sl 2 0 r.length) r) ((fun (r:List (List Int))=>[(2,.arr 1 (r.map (e_Li .m)))]) r):=by
 refine okM_of_body (lr:=[2]) hmix m58M2 rfl rfl ?_
 unfold M_bz at h
 simp only [ZC,A58M2,V58M2]
 obtain ⟨oZ7,hoZ7,h⟩:=bind_s h
 try refine ZF trivial ?_
 refine join_rule0 (blk_rule0 (loop_rule (w_al aaZ0 abZ0) hoZ7 ?_)) ?_
 · exact ZK (ZA S_al.eq_1 SX_al.eq_1)
 · simp only [ZC,SX_al,A58M2R2]
   cases h
   exact ZL trivial V58M2.eq_1
theorem w_cc (aaZ0:List ByteArray) (abZ0:List TFiber) {r:Bool×List (List Int)} (h:M_cc aaZ0 abZ0=some r):OkM Try.prog 28 [.agg [.sl 1000000000 0 aaZ0.length,.sl 1000000001 0 abZ0.length]] [(1000000000,.arr 1 (aaZ0.map AV.z)),(1000000001,.arr 4 (abZ0.map (e_TFiber .u)))] ((fun (r:Bool×List (List Int))=>.tup [.sl 2 0 r.2.length,.b r.1]) r) ((fun (r:Bool×List (List Int))=>[(2,.arr 1 (r.2.map (e_Li .m)))]) r):=by
 refine okM_of_body (lr:=[2]) hmix m28M1 rfl rfl ?_
 unfold M_cc at h
 simp only [ZC,A28M1,V28M1]
 obtain ⟨rZ1,hrZ1,h⟩:=bind_s h
 refine ZF trivial ?_
 refine ZS trivial (w_bw _ hrZ1) ?_
 refine ZG ?_
 obtain ⟨cZ2,h⟩ | ⟨cZ2,h⟩:=cond_s h
 · cases h
   exact ZL cZ2 V28M1.eq_1
 · obtain ⟨rZ3,hrZ3,h⟩:=bind_s h
   refine ZF cZ2 ?_
   refine ZW cZ2 (w_bz _ _ hrZ3) (h2:=by first | exact nm_ok [2] rfl (by decide +kernel) | exact nm_ok2 [2] [1100002] rfl (by decide +kernel) ZQ | exact ZQ) (hk:=?_)
   refine ZG ?_
   obtain ⟨cZ4,h⟩ | ⟨cZ4,h⟩:=cond_s h
   · cases h
     exact ZL (ZA cZ2 cZ4) V28M1.eq_1
   · cases h
     exact ZL (ZA cZ2 cZ4) V28M1.eq_1
theorem w_ao (nZ0:Int) (lowZ0:Int) (highZ0:Int) {r:Bool} (h:M_ao nZ0 lowZ0 highZ0=some r):Ok Try.prog 57 [.i nZ0,.i lowZ0,.i highZ0] ((fun r=>.b r) r):=by
 refine ok_of_body hmix m57 rfl ?_
 unfold M_ao at h
 simp only [ZC,A57,V57,body_eq]
 obtain ⟨cZ1,h⟩ | ⟨cZ1,h⟩:=cond_s h
 · cases h
   exact ZL cZ1 V57.eq_1
 · cases h
   exact ZL cZ1 V57.eq_1
def S_h (sZ0:ByteArray) (v:Int):St:=⟨[(0,.z sZ0),(7,.i (sZ0.size:Int)),(8,.i v)],[]⟩
def SX_h (sZ0:ByteArray) (v:Unit):St:=⟨[(0,.z sZ0)],[]⟩
theorem w_h (sZ0:ByteArray) (sZ1:Int) (o:Int ⊕ (Unit ⊕ Bool)) (h:M_h sZ0 sZ1=some o):AWP (OkS Try.prog) A81L2 (qL [0,7,8] [] (S_h sZ0) (qS (qX 0 [0] [] (SX_h sZ0)) (qR V81 (fun r=>.b r))) o) (S_h sZ0 sZ1):=by
 unfold M_h at h
 simp only [ZC,S_h,A81L2]
 obtain ⟨cZ2,h⟩ | ⟨cZ2,h⟩:=cond_s h
 · obtain ⟨oZ7,hoZ7,h⟩:=bind_s h
   try refine ZF cZ2 ?_
   refine join_rule0 (sh:=(fun v=>⟨[(0,.z sZ0),(3,.i sZ1),(4,.b v.1),(5,.b v.2),(7,.i (sZ0.size:Int)),(8,.i sZ1)],[]⟩)) (s:=oZ7) ?_ ?_
   · replace h:=hoZ7
     obtain ⟨yZ3,hyZ3,h⟩:=bind_s h
     obtain ⟨hyZ3a,hyZ3b⟩:=getz_s hyZ3
     obtain ⟨cZ4,h⟩ | ⟨cZ4,h⟩:=cond_s h
     · obtain ⟨cZ5,h⟩ | ⟨cZ5,h⟩:=cond_s h
       · cases h
         exact ZL (ZA cZ2 (ZA hyZ3a (ZA hyZ3b (ZA cZ4 cZ5)))) trivial
       · cases h
         exact ZL (ZA cZ2 (ZA hyZ3a (ZA hyZ3b (ZA cZ4 cZ5)))) trivial
     · obtain ⟨cZ6,h⟩ | ⟨cZ6,h⟩:=cond_s h
       · cases h
         exact ZL (ZA cZ2 (ZA hyZ3a (ZA hyZ3b (ZA cZ4 cZ6)))) trivial
       · cases h
         exact ZL (ZA cZ2 (ZA hyZ3a (ZA hyZ3b (ZA cZ4 cZ6)))) trivial
   · simp only [ZC,A81R1]
     obtain ⟨cZ8,h⟩ | ⟨cZ8,h⟩:=cond_s h
     · obtain ⟨cZ9,h⟩ | ⟨cZ9,h⟩:=cond_s h
       · cases h
         exact ZL (ZA cZ2 (ZA cZ8 cZ9)) V81.eq_1
       · obtain ⟨cZ10,h⟩ | ⟨cZ10,h⟩:=cond_s h
         · cases h
           exact ZL (ZA cZ2 (ZA cZ8 (ZA cZ9 cZ10))) V81.eq_1
         · cases h
           exact ZL (ZA cZ2 (ZA cZ8 (ZA cZ9 cZ10))) (ZA S_h.eq_1 SX_h.eq_1)
     · cases h
       exact ZL (ZA cZ2 cZ8) (ZA S_h.eq_1 SX_h.eq_1)
 · cases h
   exact ZL cZ2 (ZA S_h.eq_1 SX_h.eq_1)
theorem w_cm (sZ0:ByteArray) {r:Bool} (h:M_cm sZ0=some r):Ok Try.prog 81 [.z sZ0] ((fun r=>.b r) r):=by
 refine ok_of_body hmix m81 rfl ?_
 unfold M_cm at h
 simp only [ZC,A81,V81,body_eq]
 obtain ⟨oZ11,hoZ11,h⟩:=bind_s h
 try refine ZF trivial ?_
 refine join_rule (o:=oZ11) (blk_rule sideR (loop_rule (w_h sZ0) hoZ11 ?_)) (fun vZ12 hv=>?_) (fun xZ13 hv e τ hne hq=>?_)
 · exact ZK (ZA S_h.eq_1 SX_h.eq_1)
 · subst hv
   simp only [] at h
   simp only [ZC,SX_h,A81R3]
   obtain ⟨rZ14,hrZ14,h⟩:=bind_s h
   refine ZF trivial ?_
   refine ZS trivial (w_ao _ _ _ hrZ14) ?_
   refine ZG ?_
   cases h
   exact ZL trivial V81.eq_1
 · subst hv
   simp only [] at h
   obtain ⟨rfl,qZ15⟩:=hq
   cases h
   exact qZ15
def S_z (sZ0:List ByteArray) (vZ0:ByteArray) (v:Int):St:=⟨[(0,.lst .o 1 (sZ0.map AV.z)),(1,.z vZ0),(7,.i (sZ0.length:Int)),(8,.i v)],[]⟩
def SX_z (v:Unit):St:=⟨[],[]⟩
theorem w_z (sZ0:List ByteArray) (vZ0:ByteArray) (sZ1:Int) (o:Int ⊕ (Unit ⊕ Int)) (h:M_z sZ0 vZ0 sZ1=some o):AWP (OkS Try.prog) A109L1 (qL [0,1,7,8] [] (S_z sZ0 vZ0) (qS (qX 0 [] [] (SX_z)) (qR V109 (fun r=>.i r))) o) (S_z sZ0 vZ0 sZ1):=by
 unfold M_z at h
 simp only [ZC,S_z,A109L1]
 obtain ⟨cZ2,h⟩ | ⟨cZ2,h⟩:=cond_s h
 · obtain ⟨yZ3,hyZ3,h⟩:=bind_s h
   obtain ⟨hyZ3a,hyZ3b⟩:=geti_s hyZ3
   obtain ⟨cZ4,h⟩ | ⟨cZ4,h⟩:=cond_s h
   · cases h
     exact ZL (ZA cZ2 (ZA hyZ3a (ZA hyZ3b cZ4))) V109.eq_1
   · cases h
     exact ZL (ZA cZ2 (ZA hyZ3a (ZA hyZ3b cZ4))) (ZA S_z.eq_1 SX_z.eq_1)
 · cases h
   exact ZL cZ2 (ZA S_z.eq_1 SX_z.eq_1)
theorem w_cz (sZ0:List ByteArray) (vZ0:ByteArray) {r:Int} (h:M_cz sZ0 vZ0=some r):Ok Try.prog 109 [.lst .o 1 (sZ0.map AV.z),.z vZ0] ((fun r=>.i r) r):=by
 refine ok_of_body hmix m109 rfl ?_
 unfold M_cz at h
 simp only [ZC,A109,V109,body_eq]
 obtain ⟨oZ5,hoZ5,h⟩:=bind_s h
 try refine ZF trivial ?_
 refine join_rule (o:=oZ5) (blk_rule sideR (loop_rule (w_z sZ0 vZ0) hoZ5 ?_)) (fun vZ6 hv=>?_) (fun xZ7 hv e τ hne hq=>?_)
 · exact ZK (ZA S_z.eq_1 SX_z.eq_1)
 · subst hv
   simp only [] at h
   simp only [ZC,SX_z,A109R2]
   cases h
   exact ZL trivial V109.eq_1
 · subst hv
   simp only [] at h
   obtain ⟨rfl,qZ8⟩:=hq
   cases h
   exact qZ8
theorem w_cn (sZ0:List ByteArray) (vZ0:ByteArray) {r:Bool} (h:M_cn sZ0 vZ0=some r):Ok Try.prog 82 [.lst .o 1 (sZ0.map AV.z),.z vZ0] ((fun r=>.b r) r):=by
 refine ok_of_body hmix m82 rfl ?_
 unfold M_cn at h
 simp only [ZC,A82,V82,body_eq]
 obtain ⟨rZ1,hrZ1,h⟩:=bind_s h
 refine ZF trivial ?_
 refine ZS trivial (w_cz _ _ hrZ1) ?_
 refine ZG ?_
 cases h
 exact ZL trivial V82.eq_1
theorem w_bk (xZ0:Int) {r:Bool} (h:M_bk xZ0=some r):Ok Try.prog 114 [.i xZ0] ((fun r=>.b r) r):=by
 refine ok_of_body hmix m114 rfl ?_
 unfold M_bk at h
 simp only [ZC,A114,V114,body_eq]
 cases h
 exact ZL trivial V114.eq_1
theorem w_ap (xZ0:Int) (yZ0:Int) {r:Int} (h:M_ap xZ0 yZ0=some r):Ok Try.prog 98 [.i xZ0,.i yZ0] ((fun r=>.i r) r):=by
 refine ok_of_body hmix m98 rfl ?_
 unfold M_ap at h
 simp only [ZC,A98,V98,body_eq]
 obtain ⟨rZ1,hrZ1,h⟩:=bind_s h
 refine ZF trivial ?_
 refine ZS trivial (w_bk _ hrZ1) ?_
 refine ZG ?_
 obtain ⟨rZ2,hrZ2,h⟩:=bind_s h
 refine ZF trivial ?_
 refine ZS trivial (w_bk _ hrZ2) ?_
 refine ZG ?_
 obtain ⟨cZ3,h⟩ | ⟨cZ3,h⟩:=cond_s h
 · obtain ⟨cZ4,h⟩ | ⟨cZ4,h⟩:=cond_s h
   · cases h
     exact ZL (ZA cZ3 cZ4) V98.eq_1
   · cases h
     exact ZL (ZA cZ3 cZ4) V98.eq_1
 · obtain ⟨cZ5,h⟩ | ⟨cZ5,h⟩:=cond_s h
   · cases h
     exact ZL (ZA cZ3 cZ5) V98.eq_1
   · obtain ⟨cZ6,h⟩ | ⟨cZ6,h⟩:=cond_s h
     · cases h
       exact ZL (ZA cZ3 (ZA cZ5 cZ6)) V98.eq_1
     · obtain ⟨cZ7,h⟩ | ⟨cZ7,h⟩:=cond_s h
       · cases h
         exact ZL (ZA cZ3 (ZA cZ5 (ZA cZ6 cZ7))) V98.eq_1
       · cases h
         exact ZL (ZA cZ3 (ZA cZ5 (ZA cZ6 cZ7))) V98.eq_1
def S_d (valsZ0:List Int) (v:Int):St:=⟨[(3,.i 0),(6,.lst .o 1 (valsZ0.map AV.i)),(7,.i (valsZ0.length:Int)),(8,.i v)],[]⟩
def SX_d (v:Unit):St:=⟨[(3,.i 0)],[]⟩
theorem w_d (valsZ0:List Int) (sZ1:Int) (o:Int ⊕ (Unit ⊕ Int)) (h:M_d valsZ0 sZ1=some o):AWP (OkS Try.prog) A97L1 (qL [3,6,7,8] [] (S_d valsZ0) (qS (qX 0 [3] [] (SX_d)) (qR V97 (fun r=>.i r))) o) (S_d valsZ0 sZ1):=by
 unfold M_d at h
 simp only [ZC,S_d,A97L1]
 obtain ⟨cZ2,h⟩ | ⟨cZ2,h⟩:=cond_s h
 · obtain ⟨yZ3,hyZ3,h⟩:=bind_s h
   obtain ⟨hyZ3a,hyZ3b⟩:=geti_s hyZ3
   obtain ⟨cZ4,h⟩ | ⟨cZ4,h⟩:=cond_s h
   · cases h
     exact ZL (ZA cZ2 (ZA hyZ3a (ZA hyZ3b cZ4))) V97.eq_1
   · cases h
     exact ZL (ZA cZ2 (ZA hyZ3a (ZA hyZ3b cZ4))) (ZA S_d.eq_1 SX_d.eq_1)
 · cases h
   exact ZL cZ2 (ZA S_d.eq_1 SX_d.eq_1)
theorem w_bc (valsZ0:List Int) {r:Int} (h:M_bc valsZ0=some r):Ok Try.prog 97 [.lst .o 1 (valsZ0.map AV.i)] ((fun r=>.i r) r):=by
 refine ok_of_body hmix m97 rfl ?_
 unfold M_bc at h
 simp only [ZC,A97,V97,body_eq]
 obtain ⟨oZ5,hoZ5,h⟩:=bind_s h
 try refine ZF trivial ?_
 refine join_rule (o:=oZ5) (blk_rule sideR (loop_rule (w_d valsZ0) hoZ5 ?_)) (fun vZ6 hv=>?_) (fun xZ7 hv e τ hne hq=>?_)
 · exact ZK (ZA S_d.eq_1 SX_d.eq_1)
 · subst hv
   simp only [] at h
   simp only [ZC,SX_d,A97R2]
   cases h
   exact ZL trivial V97.eq_1
 · subst hv
   simp only [] at h
   obtain ⟨rfl,qZ8⟩:=hq
   cases h
   exact qZ8
theorem w_co (aZ0:TFiber) (bZ0:TFiber) {r:Int} (h:M_co aZ0 bZ0=some r):Ok Try.prog 83 [.agg [.i aZ0.A,.i aZ0.B,.i aZ0.Length,.i aZ0.Risk],.agg [.i bZ0.A,.i bZ0.B,.i bZ0.Length,.i bZ0.Risk]] ((fun r=>.i r) r):=by
 refine ok_of_body hmix m83 rfl ?_
 unfold M_co at h
 simp only [ZC,A83,V83,body_eq]
 obtain ⟨rZ1,hrZ1,h⟩:=bind_s h
 refine ZF trivial ?_
 refine ZS trivial (w_ap _ _ hrZ1) ?_
 refine ZG ?_
 obtain ⟨rZ2,hrZ2,h⟩:=bind_s h
 refine ZF trivial ?_
 refine ZS trivial (w_ap _ _ hrZ2) ?_
 refine ZG ?_
 obtain ⟨rZ3,hrZ3,h⟩:=bind_s h
 refine ZF trivial ?_
 refine ZS trivial (w_ap _ _ hrZ3) ?_
 refine ZG ?_
 obtain ⟨rZ4,hrZ4,h⟩:=bind_s h
 refine ZF trivial ?_
 refine ZS trivial (w_ap _ _ hrZ4) ?_
 refine ZG ?_
 obtain ⟨lZ5,hlZ5,h⟩:=bnd_s h
 have eZ6:Row.arr 1 [(.i rZ1:AV),(.i rZ2:AV),(.i rZ3:AV),(.i rZ4:AV)]=Row.arr 1 (lZ5.map AV.i):=by rw [← hlZ5]; rfl
 have jjZ7:lZ5.length=4:=by rw [← hlZ5]; rfl
 have nZ8:sub (lZ5.map AV.i) 0 4=lZ5.map AV.i:=sub_n _ (by simp [← hlZ5])
 obtain ⟨rZ9,hrZ9,h⟩:=bind_s h
 refine ZF (ZA eZ6 (ZA jjZ7 nZ8)) ?_
 refine ZS (ZA eZ6 (ZA jjZ7 nZ8)) (w_bc _ hrZ9) ?_
 refine ZG ?_
 cases h
 exact ZL (ZA eZ6 (ZA jjZ7 nZ8)) (ZA V83.eq_1 (ZA hlZ5.symm jjZ7))
def S_n (nZ0:TNetwork) (v:Int):St:=⟨[(1,.pt 1 0 0),(8,.lst .o 1 (nZ0.Nodes.map AV.z)),(9,.i (nZ0.Nodes.length:Int)),(10,.i v)],[(1,.var (.agg [.lst .o 1 (nZ0.Nodes.map AV.z),.lst .o 4 (nZ0.Fibers.map (e_TFiber .o))]))]⟩
def SX_n (nZ0:TNetwork) (v:Unit):St:=⟨[(1,.pt 1 0 0)],[(1,.var (.agg [.lst .o 1 (nZ0.Nodes.map AV.z),.lst .o 4 (nZ0.Fibers.map (e_TFiber .o))]))]⟩
theorem w_n (nZ0:TNetwork) (sZ1:Int) (o:Int ⊕ (Unit ⊕ Bool)) (h:M_n nZ0 sZ1=some o):AWP (OkS Try.prog) A47L1 (qL [1,8,9,10] [1] (S_n nZ0) (qS (qX 0 [1] [1] (SX_n nZ0)) (qR V47 (fun r=>.b r))) o) (S_n nZ0 sZ1):=by
 unfold M_n at h
 simp only [ZC,S_n,A47L1]
 obtain ⟨cZ2,h⟩ | ⟨cZ2,h⟩:=cond_s h
 · obtain ⟨yZ3,hyZ3,h⟩:=bind_s h
   obtain ⟨hyZ3a,hyZ3b⟩:=geti_s hyZ3
   obtain ⟨rZ4,hrZ4,h⟩:=bind_s h
   refine ZF (ZA cZ2 (ZA hyZ3a hyZ3b)) ?_
   refine ZS (ZA cZ2 (ZA hyZ3a hyZ3b)) (w_cm _ hrZ4) ?_
   refine ZG ?_
   obtain ⟨cZ5,h⟩ | ⟨cZ5,h⟩:=cond_s h
   · cases h
     exact ZL (ZA cZ2 (ZA hyZ3a (ZA hyZ3b cZ5))) V47.eq_1
   · obtain ⟨lZ6,hlZ6,h⟩:=bind_s h
     obtain ⟨hlZ6a,hlZ6b,hlZ6c,hlZ6d,hlZ6e⟩:=slT_s AV.z hlZ6
     obtain ⟨rZ7,hrZ7,h⟩:=bind_s h
     refine ZF (ZA cZ2 (ZA hyZ3a (ZA hyZ3b (ZA cZ5 (ZA hlZ6a (ZA hlZ6b (ZA hlZ6c (ZA hlZ6d hlZ6e)))))))) ?_
     refine ZS (ZA cZ2 (ZA hyZ3a (ZA hyZ3b (ZA cZ5 (ZA hlZ6a (ZA hlZ6b (ZA hlZ6c (ZA hlZ6d hlZ6e)))))))) (w_cn _ _ hrZ7) ?_
     refine ZG ?_
     obtain ⟨cZ8,h⟩ | ⟨cZ8,h⟩:=cond_s h
     · cases h
       exact ZL (ZA cZ2 (ZA hyZ3a (ZA hyZ3b (ZA cZ5 (ZA hlZ6a (ZA hlZ6b (ZA hlZ6c (ZA hlZ6d (ZA hlZ6e cZ8))))))))) V47.eq_1
     · cases h
       exact ZL (ZA cZ2 (ZA hyZ3a (ZA hyZ3b (ZA cZ5 (ZA hlZ6a (ZA hlZ6b (ZA hlZ6c (ZA hlZ6d (ZA hlZ6e cZ8))))))))) (ZA S_n.eq_1 SX_n.eq_1)
 · cases h
   exact ZL cZ2 (ZA S_n.eq_1 SX_n.eq_1)
def S_f (nZ0:TNetwork) (v:Int):St:=⟨[(1,.pt 1 0 0),(28,.lst .o 4 (nZ0.Fibers.map (e_TFiber .o))),(29,.i (nZ0.Fibers.length:Int)),(30,.i v)],[(1,.var (.agg [.lst .o 1 (nZ0.Nodes.map AV.z),.lst .o 4 (nZ0.Fibers.map (e_TFiber .o))]))]⟩
def SX_f (nZ0:TNetwork) (v:Unit):St:=⟨[(1,.pt 1 0 0)],[(1,.var (.agg [.lst .o 1 (nZ0.Nodes.map AV.z),.lst .o 4 (nZ0.Fibers.map (e_TFiber .o))]))]⟩
theorem w_f (nZ0:TNetwork) (sZ12:Int) (o:Int ⊕ (Unit ⊕ Bool)) (h:M_f nZ0 sZ12=some o):AWP (OkS Try.prog) A47L3 (qL [1,28,29,30] [1] (S_f nZ0) (qS (qX 2 [1] [1] (SX_f nZ0)) (qR V47 (fun r=>.b r))) o) (S_f nZ0 sZ12):=by
 unfold M_f at h
 simp only [ZC,S_f,A47L3]
 obtain ⟨cZ13,h⟩ | ⟨cZ13,h⟩:=cond_s h
 · obtain ⟨yZ14,hyZ14,h⟩:=bind_s h
   obtain ⟨hyZ14a,hyZ14b⟩:=geti_s hyZ14
   obtain ⟨cZ15,h⟩ | ⟨cZ15,h⟩:=cond_s h
   · cases h
     exact ZL (ZA cZ13 (ZA hyZ14a (ZA hyZ14b cZ15))) V47.eq_1
   · obtain ⟨cZ16,h⟩ | ⟨cZ16,h⟩:=cond_s h
     · cases h
       exact ZL (ZA cZ13 (ZA hyZ14a (ZA hyZ14b (ZA cZ15 cZ16)))) V47.eq_1
     · obtain ⟨cZ17,h⟩ | ⟨cZ17,h⟩:=cond_s h
       · cases h
         exact ZL (ZA cZ13 (ZA hyZ14a (ZA hyZ14b (ZA cZ15 (ZA cZ16 cZ17))))) V47.eq_1
       · obtain ⟨rZ18,hrZ18,h⟩:=bind_s h
         refine ZF (ZA cZ13 (ZA hyZ14a (ZA hyZ14b (ZA cZ15 (ZA cZ16 cZ17))))) ?_
         refine ZS (ZA cZ13 (ZA hyZ14a (ZA hyZ14b (ZA cZ15 (ZA cZ16 cZ17))))) (w_ao _ _ _ hrZ18) ?_
         refine ZG ?_
         obtain ⟨cZ19,h⟩ | ⟨cZ19,h⟩:=cond_s h
         · cases h
           exact ZL (ZA cZ13 (ZA hyZ14a (ZA hyZ14b (ZA cZ15 (ZA cZ16 (ZA cZ17 cZ19)))))) V47.eq_1
         · obtain ⟨rZ20,hrZ20,h⟩:=bind_s h
           refine ZF (ZA cZ13 (ZA hyZ14a (ZA hyZ14b (ZA cZ15 (ZA cZ16 (ZA cZ17 cZ19)))))) ?_
           refine ZS (ZA cZ13 (ZA hyZ14a (ZA hyZ14b (ZA cZ15 (ZA cZ16 (ZA cZ17 cZ19)))))) (w_ao _ _ _ hrZ20) ?_
           refine ZG ?_
           obtain ⟨cZ21,h⟩ | ⟨cZ21,h⟩:=cond_s h
           · cases h
             exact ZL (ZA cZ13 (ZA hyZ14a (ZA hyZ14b (ZA cZ15 (ZA cZ16 (ZA cZ17 (ZA cZ19 cZ21))))))) V47.eq_1
           · obtain ⟨cZ22,h⟩ | ⟨cZ22,h⟩:=cond_s h
             · obtain ⟨yZ23,hyZ23,h⟩:=bind_s h
               obtain ⟨hyZ23a,hyZ23b⟩:=geti_s hyZ23
               obtain ⟨rZ24,hrZ24,h⟩:=bind_s h
               refine ZF (ZA cZ13 (ZA hyZ14a (ZA hyZ14b (ZA cZ15 (ZA cZ16 (ZA cZ17 (ZA cZ19 (ZA cZ21 (ZA cZ22 (ZA hyZ23a hyZ23b)))))))))) ?_
               refine ZS (ZA cZ13 (ZA hyZ14a (ZA hyZ14b (ZA cZ15 (ZA cZ16 (ZA cZ17 (ZA cZ19 (ZA cZ21 (ZA cZ22 (ZA hyZ23a hyZ23b)))))))))) (w_co _ _ hrZ24) ?_
               refine ZG ?_
               obtain ⟨cZ25,h⟩ | ⟨cZ25,h⟩:=cond_s h
               · cases h
                 exact ZL (ZA cZ13 (ZA hyZ14a (ZA hyZ14b (ZA cZ15 (ZA cZ16 (ZA cZ17 (ZA cZ19 (ZA cZ21 (ZA cZ22 (ZA hyZ23a (ZA hyZ23b cZ25))))))))))) V47.eq_1
               · cases h
                 exact ZL (ZA cZ13 (ZA hyZ14a (ZA hyZ14b (ZA cZ15 (ZA cZ16 (ZA cZ17 (ZA cZ19 (ZA cZ21 (ZA cZ22 (ZA hyZ23a (ZA hyZ23b cZ25))))))))))) (ZA S_f.eq_1 SX_f.eq_1)
             · cases h
               exact ZL (ZA cZ13 (ZA hyZ14a (ZA hyZ14b (ZA cZ15 (ZA cZ16 (ZA cZ17 (ZA cZ19 (ZA cZ21 cZ22)))))))) (ZA S_f.eq_1 SX_f.eq_1)
 · cases h
   exact ZL cZ13 (ZA S_f.eq_1 SX_f.eq_1)
theorem w_bt (nZ0:TNetwork) {r:Bool} (h:M_bt nZ0=some r):Ok Try.prog 47 [.agg [.lst .o 1 (nZ0.Nodes.map AV.z),.lst .o 4 (nZ0.Fibers.map (e_TFiber .o))]] ((fun r=>.b r) r):=by
 refine ok_of_body hmix m47 rfl ?_
 unfold M_bt at h
 simp only [ZC,A47,V47,body_eq]
 obtain ⟨oZ9,hoZ9,h⟩:=bind_s h
 try refine ZF trivial ?_
 refine join_rule (o:=oZ9) (blk_rule sideR (loop_rule (w_n nZ0) hoZ9 ?_)) (fun vZ10 hv=>?_) (fun xZ11 hv e τ hne hq=>?_)
 · exact ZK (ZA S_n.eq_1 SX_n.eq_1)
 · subst hv
   simp only [] at h
   simp only [ZC,SX_n,A47R2]
   obtain ⟨oZ26,hoZ26,h⟩:=bind_s h
   try refine ZF trivial ?_
   refine join_rule (o:=oZ26) (blk_rule sideR (loop_rule (w_f nZ0) hoZ26 ?_)) (fun vZ27 hv=>?_) (fun xZ28 hv e τ hne hq=>?_)
   · exact ZK (ZA S_f.eq_1 SX_f.eq_1)
   · subst hv
     simp only [] at h
     simp only [ZC,SX_f,A47R4]
     obtain ⟨rZ29,hrZ29,h⟩:=bind_s h
     refine ZF trivial ?_
     refine ZS trivial (w_ao _ _ _ hrZ29) ?_
     refine ZG ?_
     obtain ⟨cZ30,h⟩ | ⟨cZ30,h⟩:=cond_s h
     · cases h
       exact ZL cZ30 V47.eq_1
     · cases h
       exact ZL cZ30 V47.eq_1
   · subst hv
     simp only [] at h
     obtain ⟨rfl,qZ31⟩:=hq
     cases h
     exact qZ31
 · subst hv
   simp only [] at h
   obtain ⟨rfl,qZ32⟩:=hq
   cases h
   exact qZ32
theorem w_as (fZ0:TFiber) (nodeZ0:Int) {r:Int} (h:M_as fZ0 nodeZ0=some r):Ok Try.prog 94 [.agg [.i fZ0.A,.i fZ0.B,.i fZ0.Length,.i fZ0.Risk],.i nodeZ0] ((fun r=>.i r) r):=by
 refine ok_of_body hmix m94 rfl ?_
 unfold M_as at h
 simp only [ZC,A94,V94,body_eq]
 obtain ⟨cZ1,h⟩ | ⟨cZ1,h⟩:=cond_s h
 · cases h
   exact ZL cZ1 V94.eq_1
 · obtain ⟨cZ2,h⟩ | ⟨cZ2,h⟩:=cond_s h
   · cases h
     exact ZL (ZA cZ1 cZ2) V94.eq_1
   · cases h
     exact ZL (ZA cZ1 cZ2) V94.eq_1
def S_l (sZ0:List Int) (vZ0:Int) (v:Int):St:=⟨[(0,.lst .o 1 (sZ0.map AV.i)),(1,.i vZ0),(7,.i (sZ0.length:Int)),(8,.i v)],[]⟩
def SX_l (v:Unit):St:=⟨[],[]⟩
theorem w_l (sZ0:List Int) (vZ0:Int) (sZ1:Int) (o:Int ⊕ (Unit ⊕ Int)) (h:M_l sZ0 vZ0 sZ1=some o):AWP (OkS Try.prog) A64L1 (qL [0,1,7,8] [] (S_l sZ0 vZ0) (qS (qX 0 [] [] (SX_l)) (qR V64 (fun r=>.i r))) o) (S_l sZ0 vZ0 sZ1):=by
 unfold M_l at h
 simp only [ZC,S_l,A64L1]
 obtain ⟨cZ2,h⟩ | ⟨cZ2,h⟩:=cond_s h
 · obtain ⟨yZ3,hyZ3,h⟩:=bind_s h
   obtain ⟨hyZ3a,hyZ3b⟩:=geti_s hyZ3
   obtain ⟨cZ4,h⟩ | ⟨cZ4,h⟩:=cond_s h
   · cases h
     exact ZL (ZA cZ2 (ZA hyZ3a (ZA hyZ3b cZ4))) V64.eq_1
   · cases h
     exact ZL (ZA cZ2 (ZA hyZ3a (ZA hyZ3b cZ4))) (ZA S_l.eq_1 SX_l.eq_1)
 · cases h
   exact ZL cZ2 (ZA S_l.eq_1 SX_l.eq_1)
theorem w_cw (sZ0:List Int) (vZ0:Int) {r:Int} (h:M_cw sZ0 vZ0=some r):Ok Try.prog 64 [.lst .o 1 (sZ0.map AV.i),.i vZ0] ((fun r=>.i r) r):=by
 refine ok_of_body hmix m64 rfl ?_
 unfold M_cw at h
 simp only [ZC,A64,V64,body_eq]
 obtain ⟨oZ5,hoZ5,h⟩:=bind_s h
 try refine ZF trivial ?_
 refine join_rule (o:=oZ5) (blk_rule sideR (loop_rule (w_l sZ0 vZ0) hoZ5 ?_)) (fun vZ6 hv=>?_) (fun xZ7 hv e τ hne hq=>?_)
 · exact ZK (ZA S_l.eq_1 SX_l.eq_1)
 · subst hv
   simp only [] at h
   simp only [ZC,SX_l,A64R2]
   cases h
   exact ZL trivial V64.eq_1
 · subst hv
   simp only [] at h
   obtain ⟨rfl,qZ8⟩:=hq
   cases h
   exact qZ8
theorem w_aq (sZ0:List Int) (vZ0:Int) {r:Bool} (h:M_aq sZ0 vZ0=some r):Ok Try.prog 67 [.lst .o 1 (sZ0.map AV.i),.i vZ0] ((fun r=>.b r) r):=by
 refine ok_of_body hmix m67 rfl ?_
 unfold M_aq at h
 simp only [ZC,A67,V67,body_eq]
 obtain ⟨rZ1,hrZ1,h⟩:=bind_s h
 refine ZF trivial ?_
 refine ZS trivial (w_cw _ _ hrZ1) ?_
 refine ZG ?_
 cases h
 exact ZL trivial V67.eq_1
def S_e (nZ0:TNetwork) (ringZ0:List Int) (v:Int×Int×List Int):St:=⟨[(2,.lst .o 1 (ringZ0.map AV.i)),(3,.pt 3 0 0),(9,.sl 9 0 v.2.2.length),(10,.i v.1),(15,.lst .o 1 (ringZ0.map AV.i)),(16,.i (ringZ0.length:Int)),(17,.i v.2.1)],[(3,.var (.agg [.lst .o 1 (nZ0.Nodes.map AV.z),.lst .o 4 (nZ0.Fibers.map (e_TFiber .o))])),(9,.arr 1 (v.2.2.map AV.i))]⟩
def SX_e (v:Int×List Int):St:=⟨[(9,.sl 9 0 v.2.length),(10,.i v.1)],[(9,.arr 1 (v.2.map AV.i))]⟩
theorem w_e (nZ0:TNetwork) (ringZ0:List Int) (sZ1:Int×Int×List Int) (o:(Int×Int×List Int) ⊕ ((Int×List Int) ⊕ (List Int×Int×Bool))) (h:M_e nZ0 ringZ0 sZ1=some o):AWP (OkS Try.prog) A84L2 (qL [2,3,9,10,15,16,17] [3,9] (S_e nZ0 ringZ0) (qS (qX 0 [9,10] [9] (SX_e)) (qR V84 (fun r=>.tup [.lst .u 1 (r.1.map AV.i),.i r.2.1,.b r.2.2]))) o) (S_e nZ0 ringZ0 sZ1):=by
 unfold M_e at h
 simp only [ZC,S_e,A84L2]
 obtain ⟨cZ2,h⟩ | ⟨cZ2,h⟩:=cond_s h
 · obtain ⟨yZ3,hyZ3,h⟩:=bind_s h
   obtain ⟨hyZ3a,hyZ3b⟩:=geti_s hyZ3
   obtain ⟨oZ8,hoZ8,h⟩:=bind_s h
   try refine ZF (ZA cZ2 (ZA hyZ3a hyZ3b)) ?_
   refine join_rule0 (sh:=(fun v=>⟨[(2,.lst .o 1 (ringZ0.map AV.i)),(3,.pt 3 0 0),(9,.sl 9 0 sZ1.2.2.length),(10,.i sZ1.1),(12,.i yZ3),(15,.lst .o 1 (ringZ0.map AV.i)),(16,.i (ringZ0.length:Int)),(17,.i sZ1.2.1),(35,.b v)],[(3,.var (.agg [.lst .o 1 (nZ0.Nodes.map AV.z),.lst .o 4 (nZ0.Fibers.map (e_TFiber .o))])),(9,.arr 1 (sZ1.2.2.map AV.i))]⟩)) (s:=oZ8) ?_ ?_
   · replace h:=hoZ8
     obtain ⟨rZ4,hrZ4,h⟩:=bind_s h
     refine ZF (ZA cZ2 (ZA hyZ3a hyZ3b)) ?_
     refine ZS (ZA cZ2 (ZA hyZ3a hyZ3b)) (w_ao _ _ _ hrZ4) ?_
     refine ZG ?_
     obtain ⟨cZ5,h⟩ | ⟨cZ5,h⟩:=cond_s h
     · cases h
       exact ZL (ZA cZ2 (ZA hyZ3a (ZA hyZ3b cZ5))) trivial
     · obtain ⟨lZ6,hlZ6,h⟩:=bind_s h
       obtain ⟨hlZ6a,hlZ6b,hlZ6c,hlZ6d,hlZ6e⟩:=slT_s AV.i hlZ6
       obtain ⟨rZ7,hrZ7,h⟩:=bind_s h
       refine ZF (ZA cZ2 (ZA hyZ3a (ZA hyZ3b (ZA cZ5 (ZA hlZ6a (ZA hlZ6b (ZA hlZ6c (ZA hlZ6d hlZ6e)))))))) ?_
       refine ZS (ZA cZ2 (ZA hyZ3a (ZA hyZ3b (ZA cZ5 (ZA hlZ6a (ZA hlZ6b (ZA hlZ6c (ZA hlZ6d hlZ6e)))))))) (w_aq _ _ hrZ7) ?_
       refine ZG ?_
       cases h
       exact ZL (ZA cZ2 (ZA hyZ3a (ZA hyZ3b (ZA cZ5 (ZA hlZ6a (ZA hlZ6b (ZA hlZ6c (ZA hlZ6d hlZ6e)))))))) trivial
   · simp only [ZC,A84R1]
     obtain ⟨cZ9,h⟩ | ⟨cZ9,h⟩:=cond_s h
     · cases h
       exact ZL (ZA cZ2 (ZA hyZ3a (ZA hyZ3b cZ9))) V84.eq_1
     · obtain ⟨lZ10,hlZ10,h⟩:=bnd_s h
       have eZ11:Row.arr 1 [(.i sZ1.1:AV)]=Row.arr 1 (lZ10.map AV.i):=by rw [← hlZ10]; rfl
       have jjZ12:lZ10.length=1:=by rw [← hlZ10]; rfl
       obtain ⟨uZ13,huZ13,h⟩:=bind_s h
       have huZ13g:=grd_s huZ13
       obtain ⟨lZ14,hlZ14,h⟩:=bnd_s h
       have eZ15:sZ1.2.2.map AV.i++lZ10.map AV.i=lZ14.map AV.i:=by rw [← hlZ14,List.map_append]
       have eZ16:sZ1.2.2.length+1=lZ14.length:=by simp [← hlZ10,← hlZ14] <;> omega
       rw [eZ16] at huZ13g
       obtain ⟨yZ17,hyZ17,h⟩:=bind_s h
       obtain ⟨hyZ17a,hyZ17b⟩:=geti_s hyZ17
       obtain ⟨rZ18,hrZ18,h⟩:=bind_s h
       refine ZF (ZA cZ2 (ZA hyZ3a (ZA hyZ3b (ZA cZ9 (ZA eZ11 (ZA jjZ12 (ZA huZ13g (ZA eZ15 (ZA eZ16 (ZA hyZ17a hyZ17b)))))))))) ?_
       refine ZS (ZA cZ2 (ZA hyZ3a (ZA hyZ3b (ZA cZ9 (ZA eZ11 (ZA jjZ12 (ZA huZ13g (ZA eZ15 (ZA eZ16 (ZA hyZ17a hyZ17b)))))))))) (w_as _ _ hrZ18) ?_
       refine ZG ?_
       obtain ⟨cZ19,h⟩ | ⟨cZ19,h⟩:=cond_s h
       · cases h
         exact ZL (ZA cZ2 (ZA hyZ3a (ZA hyZ3b (ZA cZ9 (ZA eZ11 (ZA jjZ12 (ZA huZ13g (ZA eZ15 (ZA eZ16 (ZA hyZ17a (ZA hyZ17b cZ19))))))))))) (ZA V84.eq_1 (ZA hlZ10.symm (ZA hlZ14.symm jjZ12)))
       · cases h
         exact ZL (ZA cZ2 (ZA hyZ3a (ZA hyZ3b (ZA cZ9 (ZA eZ11 (ZA jjZ12 (ZA huZ13g (ZA eZ15 (ZA eZ16 (ZA hyZ17a (ZA hyZ17b cZ19))))))))))) (ZA S_e.eq_1 (ZA SX_e.eq_1 (ZA hlZ10.symm (ZA hlZ14.symm jjZ12))))
 · cases h
   exact ZL cZ2 (ZA S_e.eq_1 SX_e.eq_1)
theorem w_bp (nZ0:TNetwork) (startZ0:Int) (ringZ0:List Int) {r:List Int×Int×Bool} (h:M_bp nZ0 startZ0 ringZ0=some r):Ok Try.prog 84 [.agg [.lst .o 1 (nZ0.Nodes.map AV.z),.lst .o 4 (nZ0.Fibers.map (e_TFiber .o))],.i startZ0,.lst .o 1 (ringZ0.map AV.i)] ((fun r=>.tup [.lst .u 1 (r.1.map AV.i),.i r.2.1,.b r.2.2]) r):=by
 refine ok_of_body hmix m84 rfl ?_
 unfold M_bp at h
 simp only [ZC,A84,V84,body_eq]
 obtain ⟨oZ20,hoZ20,h⟩:=bind_s h
 try refine ZF trivial ?_
 refine join_rule (o:=oZ20) (blk_rule sideR (loop_rule (w_e nZ0 ringZ0) hoZ20 ?_)) (fun vZ21 hv=>?_) (fun xZ22 hv e τ hne hq=>?_)
 · exact ZK (ZA S_e.eq_1 SX_e.eq_1)
 · subst hv
   simp only [] at h
   simp only [ZC,SX_e,A84R3]
   cases h
   exact ZL trivial V84.eq_1
 · subst hv
   simp only [] at h
   obtain ⟨rfl,qZ23⟩:=hq
   cases h
   exact qZ23
def S_m (xZ0:List Int) (v:Int×Int):St:=⟨[(0,.lst .o 1 (xZ0.map AV.i)),(3,.i v.1),(4,.i v.2)],[]⟩
def SX_m (v:Int):St:=⟨[(3,.i v)],[]⟩
theorem w_m (xZ0:List Int) (sZ3:Int×Int) (o:(Int×Int) ⊕ Int) (h:M_m xZ0 sZ3=some o):AWP (OkS Try.prog) A85L1 (qL [0,3,4] [] (S_m xZ0) (qX 0 [3] [] (SX_m)) o) (S_m xZ0 sZ3):=by
 unfold M_m at h
 simp only [ZC,S_m,A85L1]
 obtain ⟨cZ4,h⟩ | ⟨cZ4,h⟩:=cond_s h
 · obtain ⟨yZ5,hyZ5,h⟩:=bind_s h
   obtain ⟨hyZ5a,hyZ5b⟩:=geti_s hyZ5
   cases h
   exact ZL (ZA cZ4 (ZA hyZ5a hyZ5b)) (ZA S_m.eq_1 SX_m.eq_1)
 · cases h
   exact ZL cZ4 (ZA S_m.eq_1 SX_m.eq_1)
theorem w_bq (xZ0:List Int) {r:Int} (h:M_bq xZ0=some r):Ok Try.prog 85 [.lst .o 1 (xZ0.map AV.i)] ((fun r=>.i r) r):=by
 refine ok_of_body hmix m85 rfl ?_
 unfold M_bq at h
 simp only [ZC,A85,V85,body_eq]
 obtain ⟨cZ1,h⟩ | ⟨cZ1,h⟩:=cond_s h
 · cases h
 · obtain ⟨yZ2,hyZ2,h⟩:=bind_s h
   obtain ⟨hyZ2a,hyZ2b⟩:=geti_s hyZ2
   obtain ⟨oZ6,hoZ6,h⟩:=bind_s h
   try refine ZF (ZA cZ1 (ZA hyZ2a hyZ2b)) ?_
   refine join_rule0 (blk_rule0 (loop_rule (w_m xZ0) hoZ6 ?_)) ?_
   · exact ZK (ZA S_m.eq_1 SX_m.eq_1)
   · simp only [ZC,SX_m,A85R2]
     cases h
     exact ZL (ZA cZ1 (ZA hyZ2a hyZ2b)) V85.eq_1
theorem w_br (sZ0:List Int) {r:List Int} (h:M_br sZ0=some r):Ok Try.prog 86 [.lst .o 1 (sZ0.map AV.i)] ((fun r=>.lst .u 1 (r.map AV.i)) r):=by
 refine ok_of_body hmix m86 rfl ?_
 unfold M_br at h
 simp only [ZC,A86,V86,body_eq]
 obtain ⟨cZ1,h⟩ | ⟨cZ1,h⟩:=cond_s h
 · refine ZF cZ1 ?_
   refine And.intro ?_ ?_
   · replace h:=amb_l h
     cases h
     exact ZL cZ1 V86.eq_1
   · replace h:=amb_r h
     obtain ⟨uZ2,huZ2,h⟩:=bind_s h
     have huZ2g:=grd_s huZ2
     cases h
     exact ZL (ZA cZ1 huZ2g) V86.eq_1
 · obtain ⟨uZ3,huZ3,h⟩:=bind_s h
   have huZ3g:=grd_s huZ3
   cases h
   exact ZL (ZA cZ1 huZ3g) V86.eq_1
def S_i (v:Int×Int×List Int):St:=⟨[(0,.sl 1000000000 0 v.2.2.length),(2,.i v.1),(3,.i v.2.1)],[(1000000000,.arr 1 (v.2.2.map AV.i))]⟩
def SX_i (v:List Int):St:=⟨[],[(1000000000,.arr 1 (v.map AV.i))]⟩
theorem w_i (sZ1:Int×Int×List Int) (o:(Int×Int×List Int) ⊕ (List Int)) (h:M_i sZ1=some o):AWP (OkS Try.prog) A87M1L1 (qL [0,2,3] [1000000000] (S_i) (qX 0 [] [1000000000] (SX_i)) o) (S_i sZ1):=by
 unfold M_i at h
 simp only [ZC,S_i,A87M1L1]
 obtain ⟨cZ2,h⟩ | ⟨cZ2,h⟩:=cond_s h
 · obtain ⟨kZ3,hkZ3,h⟩:=bind_s h
   obtain ⟨hkZ3a,hkZ3b⟩:=grd_s hkZ3
   obtain ⟨yZ4,hyZ4,h⟩:=bind_s h
   obtain ⟨kZ5,hkZ5,h⟩:=bind_s h
   obtain ⟨hkZ5a,hkZ5b⟩:=grd_s hkZ5
   obtain ⟨yZ6,hyZ6,h⟩:=bind_s h
   obtain ⟨lZ7,hlZ7,h⟩:=bnd_s h
   have eZ8:(sZ1.2.2.map AV.i).set (Int.toNat sZ1.1) (.i yZ4)=lZ7.map AV.i:=by rw [← hlZ7,List.map_set]
   obtain ⟨yZ9,hyZ9,h⟩:=bind_s h
   obtain ⟨lZ10,hlZ10,h⟩:=bnd_s h
   have eZ11:(lZ7.map AV.i).set (Int.toNat sZ1.2.1) (.i yZ6)=lZ10.map AV.i:=by rw [← hlZ10,List.map_set]
   cases h
   exact ZL (ZA cZ2 (ZA hkZ3a (ZA hkZ3b (ZA hyZ4 (ZA hkZ5a (ZA hkZ5b (ZA hyZ6 (ZA eZ8 (ZA hyZ9 eZ11))))))))) (ZA S_i.eq_1 (ZA SX_i.eq_1 (ZA hlZ7.symm hlZ10.symm)))
 · cases h
   exact ZL cZ2 (ZA S_i.eq_1 SX_i.eq_1)
theorem w_bs (aaZ0:List Int) {r:List Int} (h:M_bs aaZ0=some r):OkM Try.prog 87 [.sl 1000000000 0 aaZ0.length] [(1000000000,.arr 1 (aaZ0.map AV.i))] ((fun (r:List Int)=>.tup []) r) ((fun (r:List Int)=>[(1000000000,.arr 1 (r.map AV.i))]) r):=by
 refine okM_of_body (lr:=[1000000000]) hmix m87M1 rfl rfl ?_
 unfold M_bs at h
 simp only [ZC,A87M1,V87M1]
 obtain ⟨oZ12,hoZ12,h⟩:=bind_s h
 try refine ZF trivial ?_
 first | refine tail_rule0 (blk_rule0 (loop_rule (w_i) hoZ12 ?_)) (fun τ qZ13=>?_) | refine tail_blk0 (loop_rule (w_i) hoZ12 ?_) (fun τ qZ13=>?_)
 · exact ZK (ZA S_i.eq_1 SX_i.eq_1)
 · cases h
   refine finM_shp qZ13 (by decide) ?_ rfl
   exact ZK (ZA V87M1.eq_1 SX_i.eq_1)
def S_g (s1Z0:List Int) (s2Z0:List Int) (v:Int):St:=⟨[(0,.lst .o 1 (s1Z0.map AV.i)),(1,.lst .o 1 (s2Z0.map AV.i)),(9,.lst .o 1 (s1Z0.map AV.i)),(10,.i (s1Z0.length:Int)),(11,.i v)],[]⟩
def SX_g (s1Z0:List Int) (s2Z0:List Int) (v:Unit):St:=⟨[(0,.lst .o 1 (s1Z0.map AV.i)),(1,.lst .o 1 (s2Z0.map AV.i))],[]⟩
theorem w_g (s1Z0:List Int) (s2Z0:List Int) (sZ1:Int) (o:Int ⊕ (Unit ⊕ Int)) (h:M_g s1Z0 s2Z0 sZ1=some o):AWP (OkS Try.prog) A88L1 (qL [0,1,9,10,11] [] (S_g s1Z0 s2Z0) (qS (qX 0 [0,1] [] (SX_g s1Z0 s2Z0)) (qR V88 (fun r=>.i r))) o) (S_g s1Z0 s2Z0 sZ1):=by
 unfold M_g at h
 simp only [ZC,S_g,A88L1]
 obtain ⟨cZ2,h⟩ | ⟨cZ2,h⟩:=cond_s h
 · obtain ⟨yZ3,hyZ3,h⟩:=bind_s h
   obtain ⟨hyZ3a,hyZ3b⟩:=geti_s hyZ3
   obtain ⟨cZ4,h⟩ | ⟨cZ4,h⟩:=cond_s h
   · cases h
     exact ZL (ZA cZ2 (ZA hyZ3a (ZA hyZ3b cZ4))) V88.eq_1
   · obtain ⟨yZ5,hyZ5,h⟩:=bind_s h
     obtain ⟨hyZ5a,hyZ5b⟩:=geti_s hyZ5
     obtain ⟨rZ6,hrZ6,h⟩:=bind_s h
     refine ZF (ZA cZ2 (ZA hyZ3a (ZA hyZ3b (ZA cZ4 (ZA hyZ5a hyZ5b))))) ?_
     refine ZS (ZA cZ2 (ZA hyZ3a (ZA hyZ3b (ZA cZ4 (ZA hyZ5a hyZ5b))))) (w_ap _ _ hrZ6) ?_
     refine ZG ?_
     obtain ⟨cZ7,h⟩ | ⟨cZ7,h⟩:=cond_s h
     · cases h
       exact ZL (ZA cZ2 (ZA hyZ3a (ZA hyZ3b (ZA cZ4 (ZA hyZ5a (ZA hyZ5b cZ7)))))) V88.eq_1
     · cases h
       exact ZL (ZA cZ2 (ZA hyZ3a (ZA hyZ3b (ZA cZ4 (ZA hyZ5a (ZA hyZ5b cZ7)))))) (ZA S_g.eq_1 SX_g.eq_1)
 · cases h
   exact ZL cZ2 (ZA S_g.eq_1 SX_g.eq_1)
theorem w_ax (s1Z0:List Int) (s2Z0:List Int) {r:Int} (h:M_ax s1Z0 s2Z0=some r):Ok Try.prog 88 [.lst .o 1 (s1Z0.map AV.i),.lst .o 1 (s2Z0.map AV.i)] ((fun r=>.i r) r):=by
 refine ok_of_body hmix m88 rfl ?_
 unfold M_ax at h
 simp only [ZC,A88,V88,body_eq]
 obtain ⟨oZ8,hoZ8,h⟩:=bind_s h
 try refine ZF trivial ?_
 refine join_rule (o:=oZ8) (blk_rule sideR (loop_rule (w_g s1Z0 s2Z0) hoZ8 ?_)) (fun vZ9 hv=>?_) (fun xZ10 hv e τ hne hq=>?_)
 · exact ZK (ZA S_g.eq_1 SX_g.eq_1)
 · subst hv
   simp only [] at h
   simp only [ZC,SX_g,A88R2]
   obtain ⟨cZ11,h⟩ | ⟨cZ11,h⟩:=cond_s h
   · cases h
     exact ZL cZ11 V88.eq_1
   · cases h
     exact ZL cZ11 V88.eq_1
 · subst hv
   simp only [] at h
   obtain ⟨rfl,qZ12⟩:=hq
   cases h
   exact qZ12
def S_j (ringZ0:List Int) (rZ8:List Int×Int×Bool) (v:Int):St:=⟨[(1,.lst .o 1 (ringZ0.map AV.i)),(7,.sl 7 0 rZ8.1.length),(56,.sl 7 0 rZ8.1.length),(57,.i (rZ8.1.length:Int)),(58,.i v)],[(7,.arr 1 (rZ8.1.map AV.i))]⟩
def SX_j (ringZ0:List Int) (rZ8:List Int×Int×Bool) (v:Unit):St:=⟨[(1,.lst .o 1 (ringZ0.map AV.i)),(7,.sl 7 0 rZ8.1.length)],[(7,.arr 1 (rZ8.1.map AV.i))]⟩
theorem w_j (ringZ0:List Int) (rZ8:List Int×Int×Bool) (sZ14:Int) (o:Int ⊕ (Unit ⊕ (List Int×Bool))) (h:M_j rZ8 sZ14=some o):AWP (OkS Try.prog) A48L3 (qL [1,7,56,57,58] [7] (S_j ringZ0 rZ8) (qS (qX 0 [1,7] [7] (SX_j ringZ0 rZ8)) (qR V48 (fun r=>.tup [.lst .u 1 (r.1.map AV.i),.b r.2]))) o) (S_j ringZ0 rZ8 sZ14):=by
 unfold M_j at h
 simp only [ZC,S_j,A48L3]
 obtain ⟨cZ15,h⟩ | ⟨cZ15,h⟩:=cond_s h
 · obtain ⟨kZ16,hkZ16,h⟩:=bind_s h
   obtain ⟨hkZ16a,hkZ16b⟩:=grd_s hkZ16
   obtain ⟨yZ17,hyZ17,h⟩:=bind_s h
   obtain ⟨uZ18,huZ18,h⟩:=bind_s h
   obtain ⟨huZ18a,huZ18b,huZ18c,huZ18d⟩:=grd_s huZ18
   obtain ⟨lZ19,hlZ19,h⟩:=bnd_s h
   have eZ20:sub (rZ8.1.map AV.i) 0 (Int.toNat sZ14)=lZ19.map AV.i:=by rw [sub_mapT,hlZ19]
   obtain ⟨rZ21,hrZ21,h⟩:=bind_s h
   refine ZF (ZA cZ15 (ZA hkZ16a (ZA hkZ16b (ZA hyZ17 (ZA huZ18a (ZA huZ18b (ZA huZ18c (ZA huZ18d eZ20)))))))) ?_
   refine ZS (ZA cZ15 (ZA hkZ16a (ZA hkZ16b (ZA hyZ17 (ZA huZ18a (ZA huZ18b (ZA huZ18c (ZA huZ18d eZ20)))))))) (w_aq _ _ hrZ21) ?_
   refine ZG ?_
   obtain ⟨cZ22,h⟩ | ⟨cZ22,h⟩:=cond_s h
   · cases h
     exact ZL (ZA cZ15 (ZA hkZ16a (ZA hkZ16b (ZA hyZ17 (ZA huZ18a (ZA huZ18b (ZA huZ18c (ZA huZ18d (ZA eZ20 cZ22))))))))) V48.eq_1
   · cases h
     exact ZL (ZA cZ15 (ZA hkZ16a (ZA hkZ16b (ZA hyZ17 (ZA huZ18a (ZA huZ18b (ZA huZ18c (ZA huZ18d (ZA eZ20 cZ22))))))))) (ZA S_j.eq_1 SX_j.eq_1)
 · cases h
   exact ZL cZ15 (ZA S_j.eq_1 SX_j.eq_1)
theorem w_bd (nZ0:TNetwork) (ringZ0:List Int) {r:List Int×Bool} (h:M_bd nZ0 ringZ0=some r):Ok Try.prog 48 [.agg [.lst .o 1 (nZ0.Nodes.map AV.z),.lst .o 4 (nZ0.Fibers.map (e_TFiber .o))],.lst .o 1 (ringZ0.map AV.i)] ((fun r=>.tup [.lst .u 1 (r.1.map AV.i),.b r.2]) r):=by
 refine ok_of_body hmix m48 rfl ?_
 unfold M_bd at h
 simp only [ZC,A48,V48,body_eq]
 obtain ⟨oZ4,hoZ4,h⟩:=bind_s h
 try refine ZF trivial ?_
 refine join_rule0 (sh:=(fun v=>⟨[(1,.lst .o 1 (ringZ0.map AV.i)),(2,.pt 2 0 0),(26,.b v)],[(2,.var (.agg [.lst .o 1 (nZ0.Nodes.map AV.z),.lst .o 4 (nZ0.Fibers.map (e_TFiber .o))]))]⟩)) (s:=oZ4) ?_ ?_
 · replace h:=hoZ4
   obtain ⟨cZ1,h⟩ | ⟨cZ1,h⟩:=cond_s h
   · cases h
     exact ZL cZ1 trivial
   · obtain ⟨yZ2,hyZ2,h⟩:=bind_s h
     obtain ⟨hyZ2a,hyZ2b⟩:=geti_s hyZ2
     obtain ⟨rZ3,hrZ3,h⟩:=bind_s h
     refine ZF (ZA cZ1 (ZA hyZ2a hyZ2b)) ?_
     refine ZS (ZA cZ1 (ZA hyZ2a hyZ2b)) (w_ao _ _ _ hrZ3) ?_
     refine ZG ?_
     cases h
     exact ZL (ZA cZ1 (ZA hyZ2a hyZ2b)) trivial
 · simp only [ZC,A48R1]
   obtain ⟨cZ5,h⟩ | ⟨cZ5,h⟩:=cond_s h
   · cases h
     exact ZL cZ5 V48.eq_1
   · obtain ⟨yZ6,hyZ6,h⟩:=bind_s h
     obtain ⟨hyZ6a,hyZ6b⟩:=geti_s hyZ6
     obtain ⟨yZ7,hyZ7,h⟩:=bind_s h
     obtain ⟨hyZ7a,hyZ7b⟩:=geti_s hyZ7
     obtain ⟨rZ8,hrZ8,h⟩:=bind_s h
     refine ZF (ZA cZ5 (ZA hyZ6a (ZA hyZ6b (ZA hyZ7a hyZ7b)))) ?_
     refine ZU (ZA cZ5 (ZA hyZ6a (ZA hyZ6b (ZA hyZ7a hyZ7b)))) (w_bp _ _ _ hrZ8) ?_
     refine ZG ?_
     obtain ⟨oZ12,hoZ12,h⟩:=bind_s h
     try refine ZF (ZA cZ5 (ZA hyZ6a (ZA hyZ6b (ZA hyZ7a hyZ7b)))) ?_
     refine join_rule0 (sh:=(fun v=>⟨[(1,.lst .o 1 (ringZ0.map AV.i)),(7,.sl 7 0 rZ8.1.length),(55,.b v)],[(7,.arr 1 (rZ8.1.map AV.i))]⟩)) (s:=oZ12) ?_ ?_
     · replace h:=hoZ12
       obtain ⟨cZ9,h⟩ | ⟨cZ9,h⟩:=cond_s h
       · cases h
         exact ZL (ZA cZ5 (ZA hyZ6a (ZA hyZ6b (ZA hyZ7a (ZA hyZ7b cZ9))))) trivial
       · obtain ⟨cZ10,h⟩ | ⟨cZ10,h⟩:=cond_s h
         · cases h
           exact ZL (ZA cZ5 (ZA hyZ6a (ZA hyZ6b (ZA hyZ7a (ZA hyZ7b (ZA cZ9 cZ10)))))) trivial
         · obtain ⟨rZ11,hrZ11,h⟩:=bind_s h
           refine ZF (ZA cZ5 (ZA hyZ6a (ZA hyZ6b (ZA hyZ7a (ZA hyZ7b (ZA cZ9 cZ10)))))) ?_
           refine ZS (ZA cZ5 (ZA hyZ6a (ZA hyZ6b (ZA hyZ7a (ZA hyZ7b (ZA cZ9 cZ10)))))) (w_bq _ hrZ11) ?_
           refine ZG ?_
           cases h
           exact ZL (ZA cZ5 (ZA hyZ6a (ZA hyZ6b (ZA hyZ7a (ZA hyZ7b (ZA cZ9 cZ10)))))) trivial
     · simp only [ZC,A48R2]
       obtain ⟨cZ13,h⟩ | ⟨cZ13,h⟩:=cond_s h
       · cases h
         exact ZL (ZA cZ5 (ZA hyZ6a (ZA hyZ6b (ZA hyZ7a (ZA hyZ7b cZ13))))) V48.eq_1
       · obtain ⟨oZ23,hoZ23,h⟩:=bind_s h
         try refine ZF (ZA cZ5 (ZA hyZ6a (ZA hyZ6b (ZA hyZ7a (ZA hyZ7b cZ13))))) ?_
         refine join_rule (o:=oZ23) (blk_rule sideR (loop_rule (w_j ringZ0 rZ8) hoZ23 ?_)) (fun vZ24 hv=>?_) (fun xZ25 hv e τ hne hq=>?_)
         · exact ZK (ZA S_j.eq_1 SX_j.eq_1)
         · subst hv
           simp only [] at h
           simp only [ZC,SX_j,A48R4]
           obtain ⟨rZ26,hrZ26,h⟩:=bind_s h
           refine ZF (ZA cZ5 (ZA hyZ6a (ZA hyZ6b (ZA hyZ7a (ZA hyZ7b cZ13))))) ?_
           refine ZU (ZA cZ5 (ZA hyZ6a (ZA hyZ6b (ZA hyZ7a (ZA hyZ7b cZ13))))) (w_br _ hrZ26) ?_
           refine ZG ?_
           obtain ⟨rZ27,hrZ27,h⟩:=bind_s h
           refine ZF (ZA cZ5 (ZA hyZ6a (ZA hyZ6b (ZA hyZ7a (ZA hyZ7b cZ13))))) ?_
           refine ZW (ZA cZ5 (ZA hyZ6a (ZA hyZ6b (ZA hyZ7a (ZA hyZ7b cZ13))))) (w_bs _ hrZ27) (h2:=by first | exact nm_ok [1000000000] rfl (by decide +kernel) | exact nm_ok2 [1000000000] [] rfl (by decide +kernel) ZQ | exact ZQ) (hk:=?_)
           refine ZG ?_
           obtain ⟨lZ28,hlZ28,h⟩:=bnd_s h
           have eZ29:sub (rZ27.map AV.i) 0 rZ26.length=lZ28.map AV.i:=by rw [sub_mapT,hlZ28]
           obtain ⟨rZ30,hrZ30,h⟩:=bind_s h
           refine ZF (ZA cZ5 (ZA hyZ6a (ZA hyZ6b (ZA hyZ7a (ZA hyZ7b (ZA cZ13 eZ29)))))) ?_
           refine ZS (ZA cZ5 (ZA hyZ6a (ZA hyZ6b (ZA hyZ7a (ZA hyZ7b (ZA cZ13 eZ29)))))) (w_ax _ _ hrZ30) ?_
           refine ZG ?_
           cases h
           exact ZL (ZA cZ5 (ZA hyZ6a (ZA hyZ6b (ZA hyZ7a (ZA hyZ7b (ZA cZ13 eZ29)))))) V48.eq_1
         · subst hv
           simp only [] at h
           obtain ⟨rfl,qZ31⟩:=hq
           cases h
           exact qZ31
def S_a (aaZ0:Int) (abZ0:Int) (acZ0:Int) (adZ0:List Int) (aeZ0:TNetwork) (v:Int×TNetwork×List (List Int)):St:=⟨[(0,.i aaZ0),(1,.i abZ0),(2,.i acZ0),(3,.lst .m 1 (adZ0.map AV.i)),(4,.pt 1000000001 0 0),(5,.pt 1000000002 0 0),(6,.pt 1000000004 0 0),(18,.lst .o 4 (((aeZ0).Fibers).map (e_TFiber .o))),(19,.i (((aeZ0).Fibers).length:Int)),(20,.i v.1)],[(470000128,.arr 1 (v.2.2.map (e_Li .u))),(1000000001,.var (.agg [.lst .o 1 (((v.2.1).Nodes).map AV.z),.lst .o 4 (((v.2.1).Fibers).map (e_TFiber .o))])),(1000000002,.var (.sl 470000128 0 v.2.2.length)),(1000000004,.var (.fn 93 [.pt 1000000001 0 0,.pt 1000000002 0 0,.pt 1000000004 0 0]))]⟩
def SX_a (v:TNetwork×List (List Int)):St:=⟨[],[(470000128,.arr 1 (v.2.map (e_Li .u))),(1000000001,.var (.agg [.lst .o 1 (((v.1).Nodes).map AV.z),.lst .o 4 (((v.1).Fibers).map (e_TFiber .o))])),(1000000002,.var (.sl 470000128 0 v.2.length)),(1000000004,.var (.fn 93 [.pt 1000000001 0 0,.pt 1000000002 0 0,.pt 1000000004 0 0]))]⟩
theorem w_a (aaZ0:Int) (abZ0:Int) (acZ0:Int) (adZ0:List Int) (aeZ0:TNetwork) (afZ0:List (List Int)) (rcZ0:Int→Int→Int→List Int→TNetwork→List (List Int)→Option (TNetwork×List (List Int))) (ihZ0:∀ (aaZ0:Int) (abZ0:Int) (acZ0:Int) (adZ0:List Int) (aeZ0:TNetwork) (afZ0:List (List Int)) {r:TNetwork×List (List Int)},rcZ0 aaZ0 abZ0 acZ0 adZ0 aeZ0 afZ0=some r→OkM Try.prog 93 [.i aaZ0,.i abZ0,.i acZ0,.sl 1000000000 0 adZ0.length,.pt 1000000001 0 0,.pt 1000000002 0 0,.pt 1000000004 0 0] [(1000000000,.arr 1 (adZ0.map AV.i)),(1000000001,.var (.agg [.lst .o 1 (((aeZ0).Nodes).map AV.z),.lst .o 4 (((aeZ0).Fibers).map (e_TFiber .o))])),(1000000002,.var (.sl 1000000003 0 afZ0.length)),(1000000003,.arr 1 (afZ0.map (e_Li .u))),(1000000004,.var (.fn 93 [.pt 1000000001 0 0,.pt 1000000002 0 0,.pt 1000000004 0 0]))] ((fun (r:TNetwork×List (List Int))=>.tup []) r) ((fun (r:TNetwork×List (List Int))=>[(470000128,.arr 1 (r.2.map (e_Li .u))),(1000000001,.var (.agg [.lst .o 1 (((r.1).Nodes).map AV.z),.lst .o 4 (((r.1).Fibers).map (e_TFiber .o))])),(1000000002,.var (.sl 470000128 0 r.2.length)),(1000000004,.var (.fn 93 [.pt 1000000001 0 0,.pt 1000000002 0 0,.pt 1000000004 0 0]))]) r)) (sZ1:Int×TNetwork×List (List Int)) (o:(Int×TNetwork×List (List Int)) ⊕ (TNetwork×List (List Int))) (h:M_a aaZ0 abZ0 acZ0 adZ0 aeZ0 rcZ0 sZ1=some o):AWP (OkS Try.prog) A93M2L2 (qL [0,1,2,3,4,5,6,18,19,20] [470000128,1000000001,1000000002,1000000004] (S_a aaZ0 abZ0 acZ0 adZ0 aeZ0) (qX 0 [] [470000128,1000000001,1000000002,1000000004] (SX_a)) o) (S_a aaZ0 abZ0 acZ0 adZ0 aeZ0 sZ1):=by
 unfold M_a at h
 simp only [ZC,S_a,A93M2L2]
 obtain ⟨cZ2,h⟩ | ⟨cZ2,h⟩:=cond_s h
 · obtain ⟨yZ3,hyZ3,h⟩:=bind_s h
   obtain ⟨hyZ3a,hyZ3b⟩:=geti_s hyZ3
   obtain ⟨rZ4,hrZ4,h⟩:=bind_s h
   refine ZF (ZA cZ2 (ZA hyZ3a hyZ3b)) ?_
   refine ZS (ZA cZ2 (ZA hyZ3a hyZ3b)) (w_as _ _ hrZ4) ?_
   refine ZG ?_
   obtain ⟨oZ7,hoZ7,h⟩:=bind_s h
   try refine ZF (ZA cZ2 (ZA hyZ3a hyZ3b)) ?_
   refine join_rule0 (sh:=(fun v=>⟨[(0,.i aaZ0),(1,.i abZ0),(2,.i acZ0),(3,.lst .m 1 (adZ0.map AV.i)),(4,.pt 1000000001 0 0),(5,.pt 1000000002 0 0),(6,.pt 1000000004 0 0),(11,.i sZ1.1),(13,.i rZ4),(18,.lst .o 4 (((aeZ0).Fibers).map (e_TFiber .o))),(19,.i (((aeZ0).Fibers).length:Int)),(20,.i sZ1.1),(35,.b v)],[(470000128,.arr 1 (sZ1.2.2.map (e_Li .u))),(1000000001,.var (.agg [.lst .o 1 (((sZ1.2.1).Nodes).map AV.z),.lst .o 4 (((sZ1.2.1).Fibers).map (e_TFiber .o))])),(1000000002,.var (.sl 470000128 0 sZ1.2.2.length)),(1000000004,.var (.fn 93 [.pt 1000000001 0 0,.pt 1000000002 0 0,.pt 1000000004 0 0]))]⟩)) (s:=oZ7) ?_ ?_
   · replace h:=hoZ7
     obtain ⟨cZ5,h⟩ | ⟨cZ5,h⟩:=cond_s h
     · cases h
       exact ZL (ZA cZ2 (ZA hyZ3a (ZA hyZ3b cZ5))) trivial
     · obtain ⟨rZ6,hrZ6,h⟩:=bind_s h
       refine ZF (ZA cZ2 (ZA hyZ3a (ZA hyZ3b cZ5))) ?_
       refine ZS (ZA cZ2 (ZA hyZ3a (ZA hyZ3b cZ5))) (w_aq _ _ hrZ6) ?_
       refine ZG ?_
       cases h
       exact ZL (ZA cZ2 (ZA hyZ3a (ZA hyZ3b cZ5))) trivial
   · simp only [ZC,A93M2R1]
     obtain ⟨cZ8,h⟩ | ⟨cZ8,h⟩:=cond_s h
     · cases h
       exact ZL (ZA cZ2 (ZA hyZ3a (ZA hyZ3b cZ8))) (ZA S_a.eq_1 SX_a.eq_1)
     · have jjZ9:(0:Int)≤(adZ0.length:Int):=Int.natCast_nonneg _
       obtain ⟨lZ10,hlZ10,h⟩:=bnd_s h
       have eZ11:Row.arr 1 [(.i sZ1.1:AV)]=Row.arr 1 (lZ10.map AV.i):=by rw [← hlZ10]; rfl
       have jjZ12:lZ10.length=1:=by rw [← hlZ10]; rfl
       obtain ⟨uZ13,huZ13,h⟩:=bind_s h
       have huZ13g:=grd_s huZ13
       obtain ⟨lZ14,hlZ14,h⟩:=bnd_s h
       have eZ15:adZ0.map AV.i++lZ10.map AV.i=lZ14.map AV.i:=by rw [← hlZ14,List.map_append]
       have eZ16:adZ0.length+1=lZ14.length:=by simp [← hlZ10,← hlZ14] <;> omega
       rw [eZ16] at huZ13g
       have jjZ17:(0:Nat) < 1:=by decide
       obtain ⟨cZ18,h⟩ | ⟨cZ18,h⟩:=cond_s h
       · obtain ⟨rZ19,hrZ19,h⟩:=bind_s h
         refine ZF (ZA cZ2 (ZA hyZ3a (ZA hyZ3b (ZA cZ8 (ZA jjZ9 (ZA eZ11 (ZA jjZ12 (ZA huZ13g (ZA eZ15 (ZA eZ16 (ZA jjZ17 cZ18))))))))))) ?_
         refine ZU (ZA cZ2 (ZA hyZ3a (ZA hyZ3b (ZA cZ8 (ZA jjZ9 (ZA eZ11 (ZA jjZ12 (ZA huZ13g (ZA eZ15 (ZA eZ16 (ZA jjZ17 cZ18))))))))))) (w_bd _ _ hrZ19) ?_
         refine ZG ?_
         obtain ⟨cZ20,h⟩ | ⟨cZ20,h⟩:=cond_s h
         · obtain ⟨lZ21,hlZ21,h⟩:=bnd_s h
           have eZ22:Row.arr 1 [(.lst .u 1 (lZ14.map AV.i):AV)]=Row.arr 1 (lZ21.map (e_Li .u)):=by rw [← hlZ21]; rfl
           have jjZ23:lZ21.length=1:=by rw [← hlZ21]; rfl
           obtain ⟨uZ24,huZ24,h⟩:=bind_s h
           have huZ24g:=grd_s huZ24
           obtain ⟨lZ25,hlZ25,h⟩:=bnd_s h
           have eZ26:sZ1.2.2.map (e_Li .u)++lZ21.map (e_Li .u)=lZ25.map (e_Li .u):=by rw [← hlZ25,List.map_append]
           have eZ27:sZ1.2.2.length+1=lZ25.length:=by simp [← hlZ10,← hlZ14,← hlZ21,← hlZ25] <;> omega
           rw [eZ27] at huZ24g
           cases h
           exact ZL (ZA cZ2 (ZA hyZ3a (ZA hyZ3b (ZA cZ8 (ZA jjZ9 (ZA eZ11 (ZA jjZ12 (ZA huZ13g (ZA eZ15 (ZA eZ16 (ZA jjZ17 (ZA cZ18 (ZA cZ20 (ZA eZ22 (ZA jjZ23 (ZA huZ24g (ZA eZ26 eZ27))))))))))))))))) (ZA S_a.eq_1 (ZA SX_a.eq_1 (ZA hlZ10.symm (ZA hlZ14.symm (ZA hlZ21.symm (ZA hlZ25.symm (ZA jjZ9 (ZA jjZ12 (ZA jjZ17 jjZ23)))))))))
         · cases h
           exact ZL (ZA cZ2 (ZA hyZ3a (ZA hyZ3b (ZA cZ8 (ZA jjZ9 (ZA eZ11 (ZA jjZ12 (ZA huZ13g (ZA eZ15 (ZA eZ16 (ZA jjZ17 (ZA cZ18 cZ20)))))))))))) (ZA S_a.eq_1 (ZA SX_a.eq_1 (ZA hlZ10.symm (ZA hlZ14.symm (ZA jjZ9 (ZA jjZ12 jjZ17))))))
       · obtain ⟨uZ28,huZ28,h⟩:=bind_s h
         have huZ28g:=grd_s huZ28
         obtain ⟨cZ29,h⟩ | ⟨cZ29,h⟩:=cond_s h
         · obtain ⟨uZ30,huZ30,h⟩:=bind_s h
           have huZ30g:=grd_s huZ30
           obtain ⟨rZ31,hrZ31,h⟩:=bind_s h
           refine ZF (ZA cZ2 (ZA hyZ3a (ZA hyZ3b (ZA cZ8 (ZA jjZ9 (ZA eZ11 (ZA jjZ12 (ZA huZ13g (ZA eZ15 (ZA eZ16 (ZA jjZ17 (ZA cZ18 (ZA huZ28g (ZA cZ29 huZ30g)))))))))))))) ?_
           refine ZW (ZA cZ2 (ZA hyZ3a (ZA hyZ3b (ZA cZ8 (ZA jjZ9 (ZA eZ11 (ZA jjZ12 (ZA huZ13g (ZA eZ15 (ZA eZ16 (ZA jjZ17 (ZA cZ18 (ZA huZ28g (ZA cZ29 huZ30g)))))))))))))) (ihZ0 _ _ _ _ _ _ hrZ31) (h2:=by first | exact nm_ok [470000128,1000000001,1000000002,1000000004] rfl (by decide +kernel) | exact nm_ok2 [470000128,1000000001,1000000002,1000000004] [477300128] rfl (by decide +kernel) ZQ | exact ZQ) (hk:=?_)
           refine ZG ?_
           cases h
           exact ZL (ZA cZ2 (ZA hyZ3a (ZA hyZ3b (ZA cZ8 (ZA jjZ9 (ZA eZ11 (ZA jjZ12 (ZA huZ13g (ZA eZ15 (ZA eZ16 (ZA jjZ17 (ZA cZ18 (ZA huZ28g (ZA cZ29 huZ30g)))))))))))))) (ZA S_a.eq_1 (ZA SX_a.eq_1 (ZA hlZ10.symm (ZA hlZ14.symm (ZA jjZ9 (ZA jjZ12 jjZ17))))))
         · cases h
           exact ZL (ZA cZ2 (ZA hyZ3a (ZA hyZ3b (ZA cZ8 (ZA jjZ9 (ZA eZ11 (ZA jjZ12 (ZA huZ13g (ZA eZ15 (ZA eZ16 (ZA jjZ17 (ZA cZ18 (ZA huZ28g cZ29))))))))))))) (ZA S_a.eq_1 (ZA SX_a.eq_1 (ZA hlZ10.symm (ZA hlZ14.symm (ZA jjZ9 (ZA jjZ12 jjZ17))))))
 · cases h
   exact ZL cZ2 (ZA S_a.eq_1 SX_a.eq_1)
theorem wB_bb (rcZ0:Int→Int→Int→List Int→TNetwork→List (List Int)→Option (TNetwork×List (List Int))) (ihZ0:∀ (aaZ0:Int) (abZ0:Int) (acZ0:Int) (adZ0:List Int) (aeZ0:TNetwork) (afZ0:List (List Int)) {r:TNetwork×List (List Int)},rcZ0 aaZ0 abZ0 acZ0 adZ0 aeZ0 afZ0=some r→OkM Try.prog 93 [.i aaZ0,.i abZ0,.i acZ0,.sl 1000000000 0 adZ0.length,.pt 1000000001 0 0,.pt 1000000002 0 0,.pt 1000000004 0 0] [(1000000000,.arr 1 (adZ0.map AV.i)),(1000000001,.var (.agg [.lst .o 1 (((aeZ0).Nodes).map AV.z),.lst .o 4 (((aeZ0).Fibers).map (e_TFiber .o))])),(1000000002,.var (.sl 1000000003 0 afZ0.length)),(1000000003,.arr 1 (afZ0.map (e_Li .u))),(1000000004,.var (.fn 93 [.pt 1000000001 0 0,.pt 1000000002 0 0,.pt 1000000004 0 0]))] ((fun (r:TNetwork×List (List Int))=>.tup []) r) ((fun (r:TNetwork×List (List Int))=>[(470000128,.arr 1 (r.2.map (e_Li .u))),(1000000001,.var (.agg [.lst .o 1 (((r.1).Nodes).map AV.z),.lst .o 4 (((r.1).Fibers).map (e_TFiber .o))])),(1000000002,.var (.sl 470000128 0 r.2.length)),(1000000004,.var (.fn 93 [.pt 1000000001 0 0,.pt 1000000002 0 0,.pt 1000000004 0 0]))]) r)) (aaZ0:Int) (abZ0:Int) (acZ0:Int) (adZ0:List Int) (aeZ0:TNetwork) (afZ0:List (List Int)) {r:TNetwork×List (List Int)} (h:M_ca rcZ0 aaZ0 abZ0 acZ0 adZ0 aeZ0 afZ0=some r):OkM Try.prog 93 [.i aaZ0,.i abZ0,.i acZ0,.sl 1000000000 0 adZ0.length,.pt 1000000001 0 0,.pt 1000000002 0 0,.pt 1000000004 0 0] [(1000000000,.arr 1 (adZ0.map AV.i)),(1000000001,.var (.agg [.lst .o 1 (((aeZ0).Nodes).map AV.z),.lst .o 4 (((aeZ0).Fibers).map (e_TFiber .o))])),(1000000002,.var (.sl 1000000003 0 afZ0.length)),(1000000003,.arr 1 (afZ0.map (e_Li .u))),(1000000004,.var (.fn 93 [.pt 1000000001 0 0,.pt 1000000002 0 0,.pt 1000000004 0 0]))] ((fun (r:TNetwork×List (List Int))=>.tup []) r) ((fun (r:TNetwork×List (List Int))=>[(470000128,.arr 1 (r.2.map (e_Li .u))),(1000000001,.var (.agg [.lst .o 1 (((r.1).Nodes).map AV.z),.lst .o 4 (((r.1).Fibers).map (e_TFiber .o))])),(1000000002,.var (.sl 470000128 0 r.2.length)),(1000000004,.var (.fn 93 [.pt 1000000001 0 0,.pt 1000000002 0 0,.pt 1000000004 0 0]))]) r):=by
 refine okM_of_body (lr:=[470000128,1000000001,1000000002,1000000004]) hmix m93M2 rfl rfl ?_
 unfold M_ca at h
 simp only [ZC,A93M2,V93M2]
 obtain ⟨oZ32,hoZ32,h⟩:=bind_s h
 try refine ZF trivial ?_
 first | refine tail_rule0 (blk_rule0 (loop_rule (w_a aaZ0 abZ0 acZ0 adZ0 aeZ0 afZ0 rcZ0 ihZ0) hoZ32 ?_)) (fun τ qZ33=>?_) | refine tail_blk0 (loop_rule (w_a aaZ0 abZ0 acZ0 adZ0 aeZ0 afZ0 rcZ0 ihZ0) hoZ32 ?_) (fun τ qZ33=>?_)
 · exact ZK (ZA S_a.eq_1 SX_a.eq_1)
 · cases h
   refine finM_shp qZ33 (by decide) ?_ rfl
   exact ZK (ZA V93M2.eq_1 SX_a.eq_1)
theorem w_bb:∀ (n:Nat) (aaZ0:Int) (abZ0:Int) (acZ0:Int) (adZ0:List Int) (aeZ0:TNetwork) (afZ0:List (List Int)) {r:TNetwork×List (List Int)} (_:M_bb n aaZ0 abZ0 acZ0 adZ0 aeZ0 afZ0=some r),OkM Try.prog 93 [.i aaZ0,.i abZ0,.i acZ0,.sl 1000000000 0 adZ0.length,.pt 1000000001 0 0,.pt 1000000002 0 0,.pt 1000000004 0 0] [(1000000000,.arr 1 (adZ0.map AV.i)),(1000000001,.var (.agg [.lst .o 1 (((aeZ0).Nodes).map AV.z),.lst .o 4 (((aeZ0).Fibers).map (e_TFiber .o))])),(1000000002,.var (.sl 1000000003 0 afZ0.length)),(1000000003,.arr 1 (afZ0.map (e_Li .u))),(1000000004,.var (.fn 93 [.pt 1000000001 0 0,.pt 1000000002 0 0,.pt 1000000004 0 0]))] ((fun (r:TNetwork×List (List Int))=>.tup []) r) ((fun (r:TNetwork×List (List Int))=>[(470000128,.arr 1 (r.2.map (e_Li .u))),(1000000001,.var (.agg [.lst .o 1 (((r.1).Nodes).map AV.z),.lst .o 4 (((r.1).Fibers).map (e_TFiber .o))])),(1000000002,.var (.sl 470000128 0 r.2.length)),(1000000004,.var (.fn 93 [.pt 1000000001 0 0,.pt 1000000002 0 0,.pt 1000000004 0 0]))]) r)
 | 0,aaZ0,abZ0,acZ0,adZ0,aeZ0,afZ0,_,h=>by cases h
 | n+1,aaZ0,abZ0,acZ0,adZ0,aeZ0,afZ0,_,h=>wB_bb (M_bb n) (w_bb n) aaZ0 abZ0 acZ0 adZ0 aeZ0 afZ0 h
def S_c (aaZ0:Int) (abZ0:Int) (acZ0:Int) (adZ0:List Int) (aeZ0:TNetwork) (v:Int×TNetwork×List (List Int)):St:=⟨[(0,.i aaZ0),(1,.i abZ0),(2,.i acZ0),(3,.lst .u 1 (adZ0.map AV.i)),(4,.pt 1000000000 0 0),(5,.pt 1000000001 0 0),(6,.pt 1000000003 0 0),(18,.lst .o 4 (((aeZ0).Fibers).map (e_TFiber .o))),(19,.i (((aeZ0).Fibers).length:Int)),(20,.i v.1)],[(470000064,.arr 1 (v.2.2.map (e_Li .u))),(1000000000,.var (.agg [.lst .o 1 (((v.2.1).Nodes).map AV.z),.lst .o 4 (((v.2.1).Fibers).map (e_TFiber .o))])),(1000000001,.var (.sl 470000064 0 v.2.2.length)),(1000000003,.var (.fn 93 [.pt 1000000000 0 0,.pt 1000000001 0 0,.pt 1000000003 0 0]))]⟩
def SX_c (v:TNetwork×List (List Int)):St:=⟨[],[(470000064,.arr 1 (v.2.map (e_Li .u))),(1000000000,.var (.agg [.lst .o 1 (((v.1).Nodes).map AV.z),.lst .o 4 (((v.1).Fibers).map (e_TFiber .o))])),(1000000001,.var (.sl 470000064 0 v.2.length)),(1000000003,.var (.fn 93 [.pt 1000000000 0 0,.pt 1000000001 0 0,.pt 1000000003 0 0]))]⟩
theorem w_c (aaZ0:Int) (abZ0:Int) (acZ0:Int) (adZ0:List Int) (aeZ0:TNetwork) (sZ1:Int×TNetwork×List (List Int)) (o:(Int×TNetwork×List (List Int)) ⊕ (TNetwork×List (List Int))) (h:M_c aaZ0 abZ0 acZ0 adZ0 aeZ0 sZ1=some o):AWP (OkS Try.prog) A93M1L2 (qL [0,1,2,3,4,5,6,18,19,20] [470000064,1000000000,1000000001,1000000003] (S_c aaZ0 abZ0 acZ0 adZ0 aeZ0) (qX 0 [] [470000064,1000000000,1000000001,1000000003] (SX_c)) o) (S_c aaZ0 abZ0 acZ0 adZ0 aeZ0 sZ1):=by
 unfold M_c at h
 simp only [ZC,S_c,A93M1L2]
 obtain ⟨cZ2,h⟩ | ⟨cZ2,h⟩:=cond_s h
 · obtain ⟨yZ3,hyZ3,h⟩:=bind_s h
   obtain ⟨hyZ3a,hyZ3b⟩:=geti_s hyZ3
   obtain ⟨rZ4,hrZ4,h⟩:=bind_s h
   refine ZF (ZA cZ2 (ZA hyZ3a hyZ3b)) ?_
   refine ZS (ZA cZ2 (ZA hyZ3a hyZ3b)) (w_as _ _ hrZ4) ?_
   refine ZG ?_
   obtain ⟨oZ7,hoZ7,h⟩:=bind_s h
   try refine ZF (ZA cZ2 (ZA hyZ3a hyZ3b)) ?_
   refine join_rule0 (sh:=(fun v=>⟨[(0,.i aaZ0),(1,.i abZ0),(2,.i acZ0),(3,.lst .u 1 (adZ0.map AV.i)),(4,.pt 1000000000 0 0),(5,.pt 1000000001 0 0),(6,.pt 1000000003 0 0),(11,.i sZ1.1),(13,.i rZ4),(18,.lst .o 4 (((aeZ0).Fibers).map (e_TFiber .o))),(19,.i (((aeZ0).Fibers).length:Int)),(20,.i sZ1.1),(35,.b v)],[(470000064,.arr 1 (sZ1.2.2.map (e_Li .u))),(1000000000,.var (.agg [.lst .o 1 (((sZ1.2.1).Nodes).map AV.z),.lst .o 4 (((sZ1.2.1).Fibers).map (e_TFiber .o))])),(1000000001,.var (.sl 470000064 0 sZ1.2.2.length)),(1000000003,.var (.fn 93 [.pt 1000000000 0 0,.pt 1000000001 0 0,.pt 1000000003 0 0]))]⟩)) (s:=oZ7) ?_ ?_
   · replace h:=hoZ7
     obtain ⟨cZ5,h⟩ | ⟨cZ5,h⟩:=cond_s h
     · cases h
       exact ZL (ZA cZ2 (ZA hyZ3a (ZA hyZ3b cZ5))) trivial
     · obtain ⟨rZ6,hrZ6,h⟩:=bind_s h
       refine ZF (ZA cZ2 (ZA hyZ3a (ZA hyZ3b cZ5))) ?_
       refine ZS (ZA cZ2 (ZA hyZ3a (ZA hyZ3b cZ5))) (w_aq _ _ hrZ6) ?_
       refine ZG ?_
       cases h
       exact ZL (ZA cZ2 (ZA hyZ3a (ZA hyZ3b cZ5))) trivial
   · simp only [ZC,A93M1R1]
     obtain ⟨cZ8,h⟩ | ⟨cZ8,h⟩:=cond_s h
     · cases h
       exact ZL (ZA cZ2 (ZA hyZ3a (ZA hyZ3b cZ8))) (ZA S_c.eq_1 SX_c.eq_1)
     · have jjZ9:(0:Int)≤(adZ0.length:Int):=Int.natCast_nonneg _
       obtain ⟨lZ10,hlZ10,h⟩:=bnd_s h
       have eZ11:Row.arr 1 [(.i sZ1.1:AV)]=Row.arr 1 (lZ10.map AV.i):=by rw [← hlZ10]; rfl
       have jjZ12:lZ10.length=1:=by rw [← hlZ10]; rfl
       obtain ⟨uZ13,huZ13,h⟩:=bind_s h
       have huZ13g:=grd_s huZ13
       obtain ⟨lZ14,hlZ14,h⟩:=bnd_s h
       have eZ15:adZ0.map AV.i++lZ10.map AV.i=lZ14.map AV.i:=by rw [← hlZ14,List.map_append]
       have eZ16:adZ0.length+1=lZ14.length:=by simp [← hlZ10,← hlZ14] <;> omega
       rw [eZ16] at huZ13g
       have jjZ17:(0:Nat) < 1:=by decide
       obtain ⟨cZ18,h⟩ | ⟨cZ18,h⟩:=cond_s h
       · obtain ⟨rZ19,hrZ19,h⟩:=bind_s h
         refine ZF (ZA cZ2 (ZA hyZ3a (ZA hyZ3b (ZA cZ8 (ZA jjZ9 (ZA eZ11 (ZA jjZ12 (ZA huZ13g (ZA eZ15 (ZA eZ16 (ZA jjZ17 cZ18))))))))))) ?_
         refine ZU (ZA cZ2 (ZA hyZ3a (ZA hyZ3b (ZA cZ8 (ZA jjZ9 (ZA eZ11 (ZA jjZ12 (ZA huZ13g (ZA eZ15 (ZA eZ16 (ZA jjZ17 cZ18))))))))))) (w_bd _ _ hrZ19) ?_
         refine ZG ?_
         obtain ⟨cZ20,h⟩ | ⟨cZ20,h⟩:=cond_s h
         · obtain ⟨lZ21,hlZ21,h⟩:=bnd_s h
           have eZ22:Row.arr 1 [(.lst .u 1 (lZ14.map AV.i):AV)]=Row.arr 1 (lZ21.map (e_Li .u)):=by rw [← hlZ21]; rfl
           have jjZ23:lZ21.length=1:=by rw [← hlZ21]; rfl
           obtain ⟨uZ24,huZ24,h⟩:=bind_s h
           have huZ24g:=grd_s huZ24
           obtain ⟨lZ25,hlZ25,h⟩:=bnd_s h
           have eZ26:sZ1.2.2.map (e_Li .u)++lZ21.map (e_Li .u)=lZ25.map (e_Li .u):=by rw [← hlZ25,List.map_append]
           have eZ27:sZ1.2.2.length+1=lZ25.length:=by simp [← hlZ10,← hlZ14,← hlZ21,← hlZ25] <;> omega
           rw [eZ27] at huZ24g
           cases h
           exact ZL (ZA cZ2 (ZA hyZ3a (ZA hyZ3b (ZA cZ8 (ZA jjZ9 (ZA eZ11 (ZA jjZ12 (ZA huZ13g (ZA eZ15 (ZA eZ16 (ZA jjZ17 (ZA cZ18 (ZA cZ20 (ZA eZ22 (ZA jjZ23 (ZA huZ24g (ZA eZ26 eZ27))))))))))))))))) (ZA S_c.eq_1 (ZA SX_c.eq_1 (ZA hlZ10.symm (ZA hlZ14.symm (ZA hlZ21.symm (ZA hlZ25.symm (ZA jjZ9 (ZA jjZ12 (ZA jjZ17 jjZ23)))))))))
         · cases h
           exact ZL (ZA cZ2 (ZA hyZ3a (ZA hyZ3b (ZA cZ8 (ZA jjZ9 (ZA eZ11 (ZA jjZ12 (ZA huZ13g (ZA eZ15 (ZA eZ16 (ZA jjZ17 (ZA cZ18 cZ20)))))))))))) (ZA S_c.eq_1 (ZA SX_c.eq_1 (ZA hlZ10.symm (ZA hlZ14.symm (ZA jjZ9 (ZA jjZ12 jjZ17))))))
       · obtain ⟨uZ28,huZ28,h⟩:=bind_s h
         have huZ28g:=grd_s huZ28
         obtain ⟨cZ29,h⟩ | ⟨cZ29,h⟩:=cond_s h
         · obtain ⟨uZ30,huZ30,h⟩:=bind_s h
           have huZ30g:=grd_s huZ30
           obtain ⟨rZ31,hrZ31,h⟩:=bind_s h
           refine ZF (ZA cZ2 (ZA hyZ3a (ZA hyZ3b (ZA cZ8 (ZA jjZ9 (ZA eZ11 (ZA jjZ12 (ZA huZ13g (ZA eZ15 (ZA eZ16 (ZA jjZ17 (ZA cZ18 (ZA huZ28g (ZA cZ29 huZ30g)))))))))))))) ?_
           refine ZW (ZA cZ2 (ZA hyZ3a (ZA hyZ3b (ZA cZ8 (ZA jjZ9 (ZA eZ11 (ZA jjZ12 (ZA huZ13g (ZA eZ15 (ZA eZ16 (ZA jjZ17 (ZA cZ18 (ZA huZ28g (ZA cZ29 huZ30g)))))))))))))) (w_bb N0 _ _ _ _ _ _ hrZ31) (h2:=by first | exact nm_ok [470000128,1000000001,1000000002,1000000004] rfl (by decide +kernel) | exact nm_ok2 [470000128,1000000001,1000000002,1000000004] [477300128] rfl (by decide +kernel) ZQ | exact ZQ) (hk:=?_)
           refine ZG ?_
           cases h
           exact ZL (ZA cZ2 (ZA hyZ3a (ZA hyZ3b (ZA cZ8 (ZA jjZ9 (ZA eZ11 (ZA jjZ12 (ZA huZ13g (ZA eZ15 (ZA eZ16 (ZA jjZ17 (ZA cZ18 (ZA huZ28g (ZA cZ29 huZ30g)))))))))))))) (ZA S_c.eq_1 (ZA SX_c.eq_1 (ZA hlZ10.symm (ZA hlZ14.symm (ZA jjZ9 (ZA jjZ12 jjZ17))))))
         · cases h
           exact ZL (ZA cZ2 (ZA hyZ3a (ZA hyZ3b (ZA cZ8 (ZA jjZ9 (ZA eZ11 (ZA jjZ12 (ZA huZ13g (ZA eZ15 (ZA eZ16 (ZA jjZ17 (ZA cZ18 (ZA huZ28g cZ29))))))))))))) (ZA S_c.eq_1 (ZA SX_c.eq_1 (ZA hlZ10.symm (ZA hlZ14.symm (ZA jjZ9 (ZA jjZ12 jjZ17))))))
 · cases h
   exact ZL cZ2 (ZA S_c.eq_1 SX_c.eq_1)
theorem w_cy (aaZ0:Int) (abZ0:Int) (acZ0:Int) (adZ0:List Int) (aeZ0:TNetwork) (afZ0:List (List Int)) {r:TNetwork×List (List Int)} (h:M_cy aaZ0 abZ0 acZ0 adZ0 aeZ0 afZ0=some r):OkM Try.prog 93 [.i aaZ0,.i abZ0,.i acZ0,.lst .u 1 (adZ0.map AV.i),.pt 1000000000 0 0,.pt 1000000001 0 0,.pt 1000000003 0 0] [(1000000000,.var (.agg [.lst .o 1 (((aeZ0).Nodes).map AV.z),.lst .o 4 (((aeZ0).Fibers).map (e_TFiber .o))])),(1000000001,.var (.sl 1000000002 0 afZ0.length)),(1000000002,.arr 1 (afZ0.map (e_Li .u))),(1000000003,.var (.fn 93 [.pt 1000000000 0 0,.pt 1000000001 0 0,.pt 1000000003 0 0]))] ((fun (r:TNetwork×List (List Int))=>.tup []) r) ((fun (r:TNetwork×List (List Int))=>[(470000064,.arr 1 (r.2.map (e_Li .u))),(1000000000,.var (.agg [.lst .o 1 (((r.1).Nodes).map AV.z),.lst .o 4 (((r.1).Fibers).map (e_TFiber .o))])),(1000000001,.var (.sl 470000064 0 r.2.length)),(1000000003,.var (.fn 93 [.pt 1000000000 0 0,.pt 1000000001 0 0,.pt 1000000003 0 0]))]) r):=by
 refine okM_of_body (lr:=[470000064,1000000000,1000000001,1000000003]) hmix m93M1 rfl rfl ?_
 unfold M_cy at h
 simp only [ZC,A93M1,V93M1]
 obtain ⟨oZ32,hoZ32,h⟩:=bind_s h
 try refine ZF trivial ?_
 first | refine tail_rule0 (blk_rule0 (loop_rule (w_c aaZ0 abZ0 acZ0 adZ0 aeZ0) hoZ32 ?_)) (fun τ qZ33=>?_) | refine tail_blk0 (loop_rule (w_c aaZ0 abZ0 acZ0 adZ0 aeZ0) hoZ32 ?_) (fun τ qZ33=>?_)
 · exact ZK (ZA S_c.eq_1 SX_c.eq_1)
 · cases h
   refine finM_shp qZ33 (by decide) ?_ rfl
   exact ZK (ZA V93M1.eq_1 SX_c.eq_1)
theorem w_ay (aZ0:List Int) (bZ0:List Int) {r:Int} (h:M_ay aZ0 bZ0=some r):Ok Try.prog 96 [.lst .o 1 (aZ0.map AV.i),.lst .o 1 (bZ0.map AV.i)] ((fun r=>.i r) r):=by
 refine ok_of_body hmix m96 rfl ?_
 unfold M_ay at h
 simp only [ZC,A96,V96,body_eq]
 obtain ⟨rZ1,hrZ1,h⟩:=bind_s h
 refine ZF trivial ?_
 refine ZS trivial (w_ap _ _ hrZ1) ?_
 refine ZG ?_
 obtain ⟨rZ2,hrZ2,h⟩:=bind_s h
 refine ZF trivial ?_
 refine ZS trivial (w_ax _ _ hrZ2) ?_
 refine ZG ?_
 obtain ⟨lZ3,hlZ3,h⟩:=bnd_s h
 have eZ4:Row.arr 1 [(.i rZ1:AV),(.i rZ2:AV)]=Row.arr 1 (lZ3.map AV.i):=by rw [← hlZ3]; rfl
 have jjZ5:lZ3.length=2:=by rw [← hlZ3]; rfl
 have nZ6:sub (lZ3.map AV.i) 0 2=lZ3.map AV.i:=sub_n _ (by simp [← hlZ3])
 obtain ⟨rZ7,hrZ7,h⟩:=bind_s h
 refine ZF (ZA eZ4 (ZA jjZ5 nZ6)) ?_
 refine ZS (ZA eZ4 (ZA jjZ5 nZ6)) (w_bc _ hrZ7) ?_
 refine ZG ?_
 cases h
 exact ZL (ZA eZ4 (ZA jjZ5 nZ6)) (ZA V96.eq_1 (ZA hlZ3.symm jjZ5))
def S_q (nZ0:TNetwork) (v:Int×TNetwork×List (List Int)):St:=⟨[(3,.pt 3 0 0),(4,.pt 4 0 0),(10,.i (nZ0.Nodes.length:Int)),(11,.i v.1)],[(1,.var (.agg [.lst .o 1 (((v.2.1).Nodes).map AV.z),.lst .o 4 (((v.2.1).Fibers).map (e_TFiber .o))])),(3,.var (.sl 500000192 0 v.2.2.length)),(4,.var (.fn 93 [.pt 1 0 0,.pt 3 0 0,.pt 4 0 0])),(500000192,.arr 1 (v.2.2.map (e_Li .u)))]⟩
def SX_q (v:List (List Int)):St:=⟨[(3,.pt 3 0 0)],[(3,.var (.sl 500000192 0 v.length)),(500000192,.arr 1 (v.map (e_Li .u)))]⟩
theorem w_q (nZ0:TNetwork) (sZ1:Int×TNetwork×List (List Int)) (o:(Int×TNetwork×List (List Int)) ⊕ (List (List Int))) (h:M_q nZ0 sZ1=some o):AWP (OkS Try.prog) A59L1 (qL [3,4,10,11] [1,3,4,500000192] (S_q nZ0) (qX 0 [3] [3,500000192] (SX_q)) o) (S_q nZ0 sZ1):=by
 unfold M_q at h
 simp only [ZC,S_q,A59L1]
 obtain ⟨cZ2,h⟩ | ⟨cZ2,h⟩:=cond_s h
 · obtain ⟨uZ3,huZ3,h⟩:=bind_s h
   have huZ3g:=grd_s huZ3
   obtain ⟨rZ4,hrZ4,h⟩:=bind_s h
   refine ZF (ZA cZ2 huZ3g) ?_
   refine ZW (ZA cZ2 huZ3g) (w_cy _ _ _ _ _ _ hrZ4) (h2:=by first | exact nm_ok [470000064,1000000000,1000000001,1000000003] rfl (by decide +kernel) | exact nm_ok2 [470000064,1000000000,1000000001,1000000003] [472000064] rfl (by decide +kernel) ZQ | exact ZQ) (hk:=?_)
   refine ZG ?_
   cases h
   exact ZL (ZA cZ2 huZ3g) (ZA S_q.eq_1 SX_q.eq_1)
 · cases h
   exact ZL cZ2 (ZA S_q.eq_1 SX_q.eq_1)
theorem w_cb (nZ0:TNetwork) {r:List (List Int)} (h:M_cb nZ0=some r):Ok Try.prog 59 [.agg [.lst .o 1 (nZ0.Nodes.map AV.z),.lst .o 4 (nZ0.Fibers.map (e_TFiber .o))]] ((fun r=>.lst .u 1 (r.map (e_Li .u))) r):=by
 refine ok_of_body hmix m59 rfl ?_
 unfold M_cb at h
 simp only [ZC,A59,V59,body_eq]
 obtain ⟨oZ5,hoZ5,h⟩:=bind_s h
 try refine ZF trivial ?_
 refine join_rule0 (blk_rule0 (loop_rule (w_q nZ0) hoZ5 ?_)) ?_
 · exact ZK (ZA S_q.eq_1 SX_q.eq_1)
 · simp only [ZC,SX_q,A59R2]
   obtain ⟨lZ6,hlZ6,h⟩:=bind_s h
   have eZ7:lZ6.length=oZ5.length:=sortX_len hlZ6
   refine ZF trivial ?_
   refine call_m (by simp only [VS1,VS2,VS3,VS4,VS5,VS6,VT1,VT2,finM_ret,finM_nrm,decide_true,decide_false,List.nodup_nil,List.nodup_cons,oks_p,oks_m,oks_h,ne_eq,not_false_eq_true,Int.reduceEq,Int.reduceNe,true_and,false_and,Nat.reduceSub,Nat.reduceMul,↓reduceIte,reduceCtorEq,Nat.reduceEqDiff,Nat.reduceAdd,Nat.reduceLeDiff,Int.reduceLE]; exact (okM_sort sort95 (e_Li .u) (shape_e_Li .u) (xs:=oZ5) (cmp:=(fun x0 x1=>M_ay x0 x1)) (C:=[]) (by simp [List.length_nil]) (by simp only [VS1,VS2,VS3,VS4,VS5,VS6,VT1,VT2,finM_ret,finM_nrm,decide_true,decide_false,List.nodup_nil,List.nodup_cons,oks_p,oks_m,oks_h,ne_eq,not_false_eq_true,Int.reduceEq,Int.reduceNe,true_and,false_and,Nat.reduceSub,Nat.reduceMul,↓reduceIte,reduceCtorEq,Nat.reduceEqDiff,Nat.reduceAdd,Nat.reduceLeDiff,Int.reduceLE,List.map_cons,List.map_nil]) rfl (by simp [Wf,VS1,VS2,VS3,VS4,VS5,VS6,VT1,VT2]) (by simp [VS1,VS2,VS3,VS4,VS5,VS6,VT1,VT2]) ((mtc_fn m96)) (fun _ _ _ hq=>by simp only [e_Li_nrm,VS1,VS2,VS3,VS4,VS5,VS6,VT1,VT2,finM_ret,finM_nrm,decide_true,decide_false,List.nodup_nil,List.nodup_cons,oks_p,oks_m,oks_h,ne_eq,not_false_eq_true,Int.reduceEq,Int.reduceNe,true_and,false_and,Nat.reduceSub,Nat.reduceMul,↓reduceIte,reduceCtorEq,Nat.reduceEqDiff,Nat.reduceAdd,Nat.reduceLeDiff,Int.reduceLE]; exact w_ay _ _ hq) hlZ6)) (by simp [VS1,VS2,VS3,VS4,VS5,VS6,VT1,VT2]) (by first | exact nm_ok [1000000000] rfl (by decide +kernel) | simp [VS1,VS2,VS3,VS4,VS5,VS6,VT1,VT2]) ?_
   refine ZG ?_
   have nZ8:sub (lZ6.map (e_Li .u)) 0 oZ5.length=lZ6.map (e_Li .u):=sub_n _ (by simp [eZ7])
   cases h
   exact ZL nZ8 (ZA V59.eq_1 eZ7)
theorem w_bf (nZ0:TNetwork) {r:List (List Int)×Bool} (h:M_bf nZ0=some r):Ok Try.prog 29 [.agg [.lst .o 1 (nZ0.Nodes.map AV.z),.lst .o 4 (nZ0.Fibers.map (e_TFiber .o))]] ((fun r=>.tup [.lst .u 1 (r.1.map (e_Li .u)),.b r.2]) r):=by
 refine ok_of_body hmix m29 rfl ?_
 unfold M_bf at h
 simp only [ZC,A29,V29,body_eq]
 obtain ⟨rZ1,hrZ1,h⟩:=bind_s h
 refine ZF trivial ?_
 refine ZS trivial (w_bt _ hrZ1) ?_
 refine ZG ?_
 obtain ⟨cZ2,h⟩ | ⟨cZ2,h⟩:=cond_s h
 · cases h
   exact ZL cZ2 V29.eq_1
 · obtain ⟨rZ3,hrZ3,h⟩:=bind_s h
   refine ZF cZ2 ?_
   refine ZU cZ2 (w_cb _ hrZ3) ?_
   refine ZG ?_
   obtain ⟨cZ4,h⟩ | ⟨cZ4,h⟩:=cond_s h
   · cases h
     exact ZL (ZA cZ2 cZ4) V29.eq_1
   · cases h
     exact ZL (ZA cZ2 cZ4) V29.eq_1
def S_aa (aZ0:List Int) (bZ0:List Int) (v:Int):St:=⟨[(0,.lst .o 1 (aZ0.map AV.i)),(1,.lst .o 1 (bZ0.map AV.i)),(5,.i v)],[]⟩
def SX_aa (v:Unit):St:=⟨[],[]⟩
theorem w_aa (aZ0:List Int) (bZ0:List Int) (sZ2:Int) (o:Int ⊕ (Unit ⊕ Bool)) (h:M_aa aZ0 bZ0 sZ2=some o):AWP (OkS Try.prog) A16L1 (qL [0,1,5] [] (S_aa aZ0 bZ0) (qS (qX 0 [] [] (SX_aa)) (qR V16 (fun r=>.b r))) o) (S_aa aZ0 bZ0 sZ2):=by
 unfold M_aa at h
 simp only [ZC,S_aa,A16L1]
 obtain ⟨cZ3,h⟩ | ⟨cZ3,h⟩:=cond_s h
 · obtain ⟨yZ4,hyZ4,h⟩:=bind_s h
   obtain ⟨hyZ4a,hyZ4b⟩:=geti_s hyZ4
   obtain ⟨yZ5,hyZ5,h⟩:=bind_s h
   obtain ⟨hyZ5a,hyZ5b⟩:=geti_s hyZ5
   obtain ⟨cZ6,h⟩ | ⟨cZ6,h⟩:=cond_s h
   · cases h
     exact ZL (ZA cZ3 (ZA hyZ4a (ZA hyZ4b (ZA hyZ5a (ZA hyZ5b cZ6))))) V16.eq_1
   · cases h
     exact ZL (ZA cZ3 (ZA hyZ4a (ZA hyZ4b (ZA hyZ5a (ZA hyZ5b cZ6))))) (ZA S_aa.eq_1 SX_aa.eq_1)
 · cases h
   exact ZL cZ3 (ZA S_aa.eq_1 SX_aa.eq_1)
theorem w_bl (aZ0:List Int) (bZ0:List Int) {r:Bool} (h:M_bl aZ0 bZ0=some r):Ok Try.prog 16 [.lst .o 1 (aZ0.map AV.i),.lst .o 1 (bZ0.map AV.i)] ((fun r=>.b r) r):=by
 refine ok_of_body hmix m16 rfl ?_
 unfold M_bl at h
 simp only [ZC,A16,V16,body_eq]
 obtain ⟨cZ1,h⟩ | ⟨cZ1,h⟩:=cond_s h
 · cases h
   exact ZL cZ1 V16.eq_1
 · obtain ⟨oZ7,hoZ7,h⟩:=bind_s h
   try refine ZF cZ1 ?_
   refine join_rule (o:=oZ7) (blk_rule sideR (loop_rule (w_aa aZ0 bZ0) hoZ7 ?_)) (fun vZ8 hv=>?_) (fun xZ9 hv e τ hne hq=>?_)
   · exact ZK (ZA S_aa.eq_1 SX_aa.eq_1)
   · subst hv
     simp only [] at h
     simp only [ZC,SX_aa,A16R2]
     cases h
     exact ZL cZ1 V16.eq_1
   · subst hv
     simp only [] at h
     obtain ⟨rfl,qZ10⟩:=hq
     cases h
     exact qZ10
def S_ab (aZ0:List (List Int)) (bZ0:List (List Int)) (v:Int):St:=⟨[(0,.lst .o 1 (aZ0.map (e_Li .o))),(1,.lst .o 1 (bZ0.map (e_Li .o))),(5,.i v)],[]⟩
def SX_ab (v:Unit):St:=⟨[],[]⟩
theorem w_ab (aZ0:List (List Int)) (bZ0:List (List Int)) (sZ2:Int) (o:Int ⊕ (Unit ⊕ Bool)) (h:M_ab aZ0 bZ0 sZ2=some o):AWP (OkS Try.prog) A30L1 (qL [0,1,5] [] (S_ab aZ0 bZ0) (qS (qX 0 [] [] (SX_ab)) (qR V30 (fun r=>.b r))) o) (S_ab aZ0 bZ0 sZ2):=by
 unfold M_ab at h
 simp only [ZC,S_ab,A30L1]
 obtain ⟨cZ3,h⟩ | ⟨cZ3,h⟩:=cond_s h
 · obtain ⟨yZ4,hyZ4,h⟩:=bind_s h
   obtain ⟨hyZ4a,hyZ4b⟩:=geti_s hyZ4
   obtain ⟨yZ5,hyZ5,h⟩:=bind_s h
   obtain ⟨hyZ5a,hyZ5b⟩:=geti_s hyZ5
   obtain ⟨rZ6,hrZ6,h⟩:=bind_s h
   refine ZF (ZA cZ3 (ZA hyZ4a (ZA hyZ4b (ZA hyZ5a hyZ5b)))) ?_
   refine ZS (ZA cZ3 (ZA hyZ4a (ZA hyZ4b (ZA hyZ5a hyZ5b)))) (w_bl _ _ hrZ6) ?_
   refine ZG ?_
   obtain ⟨cZ7,h⟩ | ⟨cZ7,h⟩:=cond_s h
   · cases h
     exact ZL (ZA cZ3 (ZA hyZ4a (ZA hyZ4b (ZA hyZ5a (ZA hyZ5b cZ7))))) V30.eq_1
   · cases h
     exact ZL (ZA cZ3 (ZA hyZ4a (ZA hyZ4b (ZA hyZ5a (ZA hyZ5b cZ7))))) (ZA S_ab.eq_1 SX_ab.eq_1)
 · cases h
   exact ZL cZ3 (ZA S_ab.eq_1 SX_ab.eq_1)
theorem w_az (aZ0:List (List Int)) (bZ0:List (List Int)) {r:Bool} (h:M_az aZ0 bZ0=some r):Ok Try.prog 30 [.lst .o 1 (aZ0.map (e_Li .o)),.lst .o 1 (bZ0.map (e_Li .o))] ((fun r=>.b r) r):=by
 refine ok_of_body hmix m30 rfl ?_
 unfold M_az at h
 simp only [ZC,A30,V30,body_eq]
 obtain ⟨cZ1,h⟩ | ⟨cZ1,h⟩:=cond_s h
 · cases h
   exact ZL cZ1 V30.eq_1
 · obtain ⟨oZ8,hoZ8,h⟩:=bind_s h
   try refine ZF cZ1 ?_
   refine join_rule (o:=oZ8) (blk_rule sideR (loop_rule (w_ab aZ0 bZ0) hoZ8 ?_)) (fun vZ9 hv=>?_) (fun xZ10 hv e τ hne hq=>?_)
   · exact ZK (ZA S_ab.eq_1 SX_ab.eq_1)
   · subst hv
     simp only [] at h
     simp only [ZC,SX_ab,A30R2]
     cases h
     exact ZL cZ1 V30.eq_1
   · subst hv
     simp only [] at h
     obtain ⟨rfl,qZ11⟩:=hq
     cases h
     exact qZ11
def S_ac (aZ0:List ByteArray) (bZ0:List ByteArray) (v:Int):St:=⟨[(0,.lst .o 1 (aZ0.map AV.z)),(1,.lst .o 1 (bZ0.map AV.z)),(5,.i v)],[]⟩
def SX_ac (v:Unit):St:=⟨[],[]⟩
theorem w_ac (aZ0:List ByteArray) (bZ0:List ByteArray) (sZ2:Int) (o:Int ⊕ (Unit ⊕ Bool)) (h:M_ac aZ0 bZ0 sZ2=some o):AWP (OkS Try.prog) A44L1 (qL [0,1,5] [] (S_ac aZ0 bZ0) (qS (qX 0 [] [] (SX_ac)) (qR V44 (fun r=>.b r))) o) (S_ac aZ0 bZ0 sZ2):=by
 unfold M_ac at h
 simp only [ZC,S_ac,A44L1]
 obtain ⟨cZ3,h⟩ | ⟨cZ3,h⟩:=cond_s h
 · obtain ⟨yZ4,hyZ4,h⟩:=bind_s h
   obtain ⟨hyZ4a,hyZ4b⟩:=geti_s hyZ4
   obtain ⟨yZ5,hyZ5,h⟩:=bind_s h
   obtain ⟨hyZ5a,hyZ5b⟩:=geti_s hyZ5
   obtain ⟨cZ6,h⟩ | ⟨cZ6,h⟩:=cond_s h
   · cases h
     exact ZL (ZA cZ3 (ZA hyZ4a (ZA hyZ4b (ZA hyZ5a (ZA hyZ5b cZ6))))) V44.eq_1
   · cases h
     exact ZL (ZA cZ3 (ZA hyZ4a (ZA hyZ4b (ZA hyZ5a (ZA hyZ5b cZ6))))) (ZA S_ac.eq_1 SX_ac.eq_1)
 · cases h
   exact ZL cZ3 (ZA S_ac.eq_1 SX_ac.eq_1)
theorem w_cp (aZ0:List ByteArray) (bZ0:List ByteArray) {r:Bool} (h:M_cp aZ0 bZ0=some r):Ok Try.prog 44 [.lst .o 1 (aZ0.map AV.z),.lst .o 1 (bZ0.map AV.z)] ((fun r=>.b r) r):=by
 refine ok_of_body hmix m44 rfl ?_
 unfold M_cp at h
 simp only [ZC,A44,V44,body_eq]
 obtain ⟨cZ1,h⟩ | ⟨cZ1,h⟩:=cond_s h
 · cases h
   exact ZL cZ1 V44.eq_1
 · obtain ⟨oZ7,hoZ7,h⟩:=bind_s h
   try refine ZF cZ1 ?_
   refine join_rule (o:=oZ7) (blk_rule sideR (loop_rule (w_ac aZ0 bZ0) hoZ7 ?_)) (fun vZ8 hv=>?_) (fun xZ9 hv e τ hne hq=>?_)
   · exact ZK (ZA S_ac.eq_1 SX_ac.eq_1)
   · subst hv
     simp only [] at h
     simp only [ZC,SX_ac,A44R2]
     cases h
     exact ZL cZ1 V44.eq_1
   · subst hv
     simp only [] at h
     obtain ⟨rfl,qZ10⟩:=hq
     cases h
     exact qZ10
theorem w_bm (aZ0:TFiber) (bZ0:TFiber) {r:Bool} (h:M_bm aZ0 bZ0=some r):Ok Try.prog 80 [.agg [.i aZ0.A,.i aZ0.B,.i aZ0.Length,.i aZ0.Risk],.agg [.i bZ0.A,.i bZ0.B,.i bZ0.Length,.i bZ0.Risk]] ((fun r=>.b r) r):=by
 refine ok_of_body hmix m80 rfl ?_
 unfold M_bm at h
 simp only [ZC,A80,V80,body_eq]
 obtain ⟨cZ1,h⟩ | ⟨cZ1,h⟩:=cond_s h
 · cases h
   exact ZL cZ1 V80.eq_1
 · obtain ⟨cZ2,h⟩ | ⟨cZ2,h⟩:=cond_s h
   · cases h
     exact ZL (ZA cZ1 cZ2) V80.eq_1
   · obtain ⟨cZ3,h⟩ | ⟨cZ3,h⟩:=cond_s h
     · cases h
       exact ZL (ZA cZ1 (ZA cZ2 cZ3)) V80.eq_1
     · obtain ⟨cZ4,h⟩ | ⟨cZ4,h⟩:=cond_s h
       · cases h
         exact ZL (ZA cZ1 (ZA cZ2 (ZA cZ3 cZ4))) V80.eq_1
       · cases h
         exact ZL (ZA cZ1 (ZA cZ2 (ZA cZ3 cZ4))) V80.eq_1
def S_ad (aZ0:List TFiber) (bZ0:List TFiber) (v:Int):St:=⟨[(0,.lst .o 4 (aZ0.map (e_TFiber .o))),(1,.lst .o 4 (bZ0.map (e_TFiber .o))),(5,.i v)],[]⟩
def SX_ad (v:Unit):St:=⟨[],[]⟩
theorem w_ad (aZ0:List TFiber) (bZ0:List TFiber) (sZ2:Int) (o:Int ⊕ (Unit ⊕ Bool)) (h:M_ad aZ0 bZ0 sZ2=some o):AWP (OkS Try.prog) A45L1 (qL [0,1,5] [] (S_ad aZ0 bZ0) (qS (qX 0 [] [] (SX_ad)) (qR V45 (fun r=>.b r))) o) (S_ad aZ0 bZ0 sZ2):=by
 unfold M_ad at h
 simp only [ZC,S_ad,A45L1]
 obtain ⟨cZ3,h⟩ | ⟨cZ3,h⟩:=cond_s h
 · obtain ⟨yZ4,hyZ4,h⟩:=bind_s h
   obtain ⟨hyZ4a,hyZ4b⟩:=geti_s hyZ4
   obtain ⟨yZ5,hyZ5,h⟩:=bind_s h
   obtain ⟨hyZ5a,hyZ5b⟩:=geti_s hyZ5
   obtain ⟨rZ6,hrZ6,h⟩:=bind_s h
   refine ZF (ZA cZ3 (ZA hyZ4a (ZA hyZ4b (ZA hyZ5a hyZ5b)))) ?_
   refine ZS (ZA cZ3 (ZA hyZ4a (ZA hyZ4b (ZA hyZ5a hyZ5b)))) (w_bm _ _ hrZ6) ?_
   refine ZG ?_
   obtain ⟨cZ7,h⟩ | ⟨cZ7,h⟩:=cond_s h
   · cases h
     exact ZL (ZA cZ3 (ZA hyZ4a (ZA hyZ4b (ZA hyZ5a (ZA hyZ5b cZ7))))) V45.eq_1
   · cases h
     exact ZL (ZA cZ3 (ZA hyZ4a (ZA hyZ4b (ZA hyZ5a (ZA hyZ5b cZ7))))) (ZA S_ad.eq_1 SX_ad.eq_1)
 · cases h
   exact ZL cZ3 (ZA S_ad.eq_1 SX_ad.eq_1)
theorem w_cq (aZ0:List TFiber) (bZ0:List TFiber) {r:Bool} (h:M_cq aZ0 bZ0=some r):Ok Try.prog 45 [.lst .o 4 (aZ0.map (e_TFiber .o)),.lst .o 4 (bZ0.map (e_TFiber .o))] ((fun r=>.b r) r):=by
 refine ok_of_body hmix m45 rfl ?_
 unfold M_cq at h
 simp only [ZC,A45,V45,body_eq]
 obtain ⟨cZ1,h⟩ | ⟨cZ1,h⟩:=cond_s h
 · cases h
   exact ZL cZ1 V45.eq_1
 · obtain ⟨oZ8,hoZ8,h⟩:=bind_s h
   try refine ZF cZ1 ?_
   refine join_rule (o:=oZ8) (blk_rule sideR (loop_rule (w_ad aZ0 bZ0) hoZ8 ?_)) (fun vZ9 hv=>?_) (fun xZ10 hv e τ hne hq=>?_)
   · exact ZK (ZA S_ad.eq_1 SX_ad.eq_1)
   · subst hv
     simp only [] at h
     simp only [ZC,SX_ad,A45R2]
     cases h
     exact ZL cZ1 V45.eq_1
   · subst hv
     simp only [] at h
     obtain ⟨rfl,qZ11⟩:=hq
     cases h
     exact qZ11
theorem w_cr (aZ0:TNetwork) (bZ0:TNetwork) {r:Bool} (h:M_cr aZ0 bZ0=some r):Ok Try.prog 15 [.agg [.lst .o 1 (aZ0.Nodes.map AV.z),.lst .o 4 (aZ0.Fibers.map (e_TFiber .o))],.agg [.lst .o 1 (bZ0.Nodes.map AV.z),.lst .o 4 (bZ0.Fibers.map (e_TFiber .o))]] ((fun r=>.b r) r):=by
 refine ok_of_body hmix m15 rfl ?_
 unfold M_cr at h
 simp only [ZC,A15,V15,body_eq]
 obtain ⟨rZ1,hrZ1,h⟩:=bind_s h
 refine ZF trivial ?_
 refine ZS trivial (w_cp _ _ hrZ1) ?_
 refine ZG ?_
 obtain ⟨cZ2,h⟩ | ⟨cZ2,h⟩:=cond_s h
 · cases h
   exact ZL cZ2 V15.eq_1
 · obtain ⟨rZ3,hrZ3,h⟩:=bind_s h
   refine ZF cZ2 ?_
   refine ZS cZ2 (w_cq _ _ hrZ3) ?_
   refine ZG ?_
   obtain ⟨cZ4,h⟩ | ⟨cZ4,h⟩:=cond_s h
   · cases h
     exact ZL (ZA cZ2 cZ4) V15.eq_1
   · cases h
     exact ZL (ZA cZ2 cZ4) V15.eq_1
def S_ae (v:Int×ByteArray):St:=⟨[(0,.i v.1),(3,.z v.2)],[]⟩
def SX_ae (v:ByteArray):St:=⟨[(3,.z v)],[]⟩
theorem w_ae (sZ2:Int×ByteArray) (o:(Int×ByteArray) ⊕ ByteArray) (h:M_ae sZ2=some o):AWP (OkS Try.prog) A89L1 (qL [0,3] [] (S_ae) (qX 0 [3] [] (SX_ae)) o) (S_ae sZ2):=by
 unfold M_ae at h
 simp only [ZC,S_ae,A89L1]
 obtain ⟨cZ3,h⟩ | ⟨cZ3,h⟩:=cond_s h
 · obtain ⟨uZ4,huZ4,h⟩:=bind_s h
   have huZ4g:=grd_s huZ4
   obtain ⟨lZ5,hlZ5,h⟩:=bnd_s h
   have eZ6:Row.arr 1 [(.sc (.int .u8 (IntKind.wrap .u8 (IntKind.wrap .i64 (48+(Int.tmod sZ2.1 10))))):AV)]=Row.arr 1 (lZ5.map AV.u8):=by rw [← hlZ5]; rfl
   have jjZ7:lZ5.length=1:=by rw [← hlZ5]; rfl
   have nZ8:sub (lZ5.map AV.u8) 0 1=lZ5.map AV.u8:=sub_n _ (by simp [← hlZ5])
   obtain ⟨uZ9,huZ9,h⟩:=bind_s h
   have huZ9g:=grd_s huZ9
   obtain ⟨uZ10,huZ10,h⟩:=bind_s h
   have huZ10g:=grd_s huZ10
   cases h
   exact ZL (ZA cZ3 (ZA huZ4g (ZA eZ6 (ZA jjZ7 (ZA nZ8 (ZA huZ9g huZ10g)))))) (ZA S_ae.eq_1 (ZA SX_ae.eq_1 (ZA hlZ5.symm jjZ7)))
 · cases h
   exact ZL cZ3 (ZA S_ae.eq_1 SX_ae.eq_1)
theorem w_bg (kZ0:Int) {r:ByteArray} (h:M_bg kZ0=some r):Ok Try.prog 89 [.i kZ0] ((fun r=>.z r) r):=by
 refine ok_of_body hmix m89 rfl ?_
 unfold M_bg at h
 simp only [ZC,A89,V89,body_eq]
 obtain ⟨cZ1,h⟩ | ⟨cZ1,h⟩:=cond_s h
 · cases h
   exact ZL cZ1 V89.eq_1
 · obtain ⟨oZ11,hoZ11,h⟩:=bind_s h
   try refine ZF cZ1 ?_
   refine join_rule0 (blk_rule0 (loop_rule (w_ae) hoZ11 ?_)) ?_
   · exact ZK (ZA S_ae.eq_1 SX_ae.eq_1)
   · simp only [ZC,SX_ae,A89R2]
     obtain ⟨uZ12,huZ12,h⟩:=bind_s h
     have huZ12g:=grd_s huZ12
     cases h
     exact ZL (ZA cZ1 huZ12g) V89.eq_1
def S_af (v:Int×Int×List ByteArray):St:=⟨[(0,.sl 1000000000 0 v.2.2.length),(1,.i v.1),(5,.i v.2.1)],[(1000000000,.arr 1 (v.2.2.map AV.z))]⟩
def SX_af (v:Int×List ByteArray):St:=⟨[(1,.i v.1)],[(1000000000,.arr 1 (v.2.map AV.z))]⟩
theorem w_af (sZ1:Int×Int×List ByteArray) (o:(Int×Int×List ByteArray) ⊕ (Int×List ByteArray)) (h:M_af sZ1=some o):AWP (OkS Try.prog) A49M1L1 (qL [0,1,5] [1000000000] (S_af) (qX 0 [1] [1000000000] (SX_af)) o) (S_af sZ1):=by
 unfold M_af at h
 simp only [ZC,S_af,A49M1L1]
 obtain ⟨cZ2,h⟩ | ⟨cZ2,h⟩:=cond_s h
 · obtain ⟨rZ3,hrZ3,h⟩:=bind_s h
   refine ZF cZ2 ?_
   refine ZS cZ2 (w_bg _ hrZ3) ?_
   refine ZG ?_
   obtain ⟨kZ4,hkZ4,h⟩:=bind_s h
   obtain ⟨hkZ4a,hkZ4b⟩:=grd_s hkZ4
   obtain ⟨yZ5,hyZ5,h⟩:=bind_s h
   obtain ⟨lZ6,hlZ6,h⟩:=bnd_s h
   have eZ7:(sZ1.2.2.map AV.z).set (Int.toNat sZ1.2.1) (.z rZ3)=lZ6.map AV.z:=by rw [← hlZ6,List.map_set]
   cases h
   exact ZL (ZA cZ2 (ZA hkZ4a (ZA hkZ4b (ZA hyZ5 eZ7)))) (ZA S_af.eq_1 (ZA SX_af.eq_1 hlZ6.symm))
 · cases h
   exact ZL cZ2 (ZA S_af.eq_1 SX_af.eq_1)
theorem w_cs (aaZ0:Int) (abZ0:List ByteArray) {r:Int×List ByteArray} (h:M_cs aaZ0 abZ0=some r):OkM Try.prog 49 [.sl 1000000000 0 abZ0.length,.i aaZ0] [(1000000000,.arr 1 (abZ0.map AV.z))] ((fun (r:Int×List ByteArray)=>.i r.1) r) ((fun (r:Int×List ByteArray)=>[(1000000000,.arr 1 (r.2.map AV.z))]) r):=by
 refine okM_of_body (lr:=[1000000000]) hmix m49M1 rfl rfl ?_
 unfold M_cs at h
 simp only [ZC,A49M1,V49M1]
 obtain ⟨oZ8,hoZ8,h⟩:=bind_s h
 try refine ZF trivial ?_
 refine join_rule0 (blk_rule0 (loop_rule (w_af) hoZ8 ?_)) ?_
 · exact ZK (ZA S_af.eq_1 SX_af.eq_1)
 · simp only [ZC,SX_af,A49M1R2]
   cases h
   exact ZL trivial V49M1.eq_1
def S_ag (v:Int×Int×List TFiber):St:=⟨[(0,.sl 1000000000 0 v.2.2.length),(1,.i v.1),(5,.i v.2.1)],[(1000000000,.arr 4 (v.2.2.map (e_TFiber .u)))]⟩
def SX_ag (v:Int×List TFiber):St:=⟨[(1,.i v.1)],[(1000000000,.arr 4 (v.2.map (e_TFiber .u)))]⟩
theorem w_ag (sZ1:Int×Int×List TFiber) (o:(Int×Int×List TFiber) ⊕ (Int×List TFiber)) (h:M_ag sZ1=some o):AWP (OkS Try.prog) A50M1L1 (qL [0,1,5] [1000000000] (S_ag) (qX 0 [1] [1000000000] (SX_ag)) o) (S_ag sZ1):=by
 unfold M_ag at h
 simp only [ZC,S_ag,A50M1L1]
 obtain ⟨cZ2,h⟩ | ⟨cZ2,h⟩:=cond_s h
 · obtain ⟨kZ3,hkZ3,h⟩:=bind_s h
   obtain ⟨hkZ3a,hkZ3b⟩:=grd_s hkZ3
   obtain ⟨yZ4,hyZ4,h⟩:=bind_s h
   obtain ⟨lZ5,hlZ5,h⟩:=bnd_s h
   have eZ6:(sZ1.2.2.map (e_TFiber .u)).set (Int.toNat sZ1.2.1) (.agg [.i sZ1.1,.i yZ4.B,.i yZ4.Length,.i yZ4.Risk])=lZ5.map (e_TFiber .u):=by rw [← hlZ5,List.map_set]; rfl
   obtain ⟨yZ7,hyZ7,h⟩:=bind_s h
   obtain ⟨lZ8,hlZ8,h⟩:=bnd_s h
   have eZ9:(lZ5.map (e_TFiber .u)).set (Int.toNat sZ1.2.1) (.agg [.i yZ7.A,.i (IntKind.wrap .i64 (sZ1.1+1)),.i yZ7.Length,.i yZ7.Risk])=lZ8.map (e_TFiber .u):=by rw [← hlZ8,List.map_set]; rfl
   obtain ⟨yZ10,hyZ10,h⟩:=bind_s h
   obtain ⟨lZ11,hlZ11,h⟩:=bnd_s h
   have eZ12:(lZ8.map (e_TFiber .u)).set (Int.toNat sZ1.2.1) (.agg [.i yZ10.A,.i yZ10.B,.i (IntKind.wrap .i64 ((IntKind.wrap .i64 (sZ1.1+1))+1)),.i yZ10.Risk])=lZ11.map (e_TFiber .u):=by rw [← hlZ11,List.map_set]; rfl
   obtain ⟨yZ13,hyZ13,h⟩:=bind_s h
   obtain ⟨lZ14,hlZ14,h⟩:=bnd_s h
   have eZ15:(lZ11.map (e_TFiber .u)).set (Int.toNat sZ1.2.1) (.agg [.i yZ13.A,.i yZ13.B,.i yZ13.Length,.i (IntKind.wrap .i64 ((IntKind.wrap .i64 ((IntKind.wrap .i64 (sZ1.1+1))+1))+1))])=lZ14.map (e_TFiber .u):=by rw [← hlZ14,List.map_set]; rfl
   cases h
   exact ZL (ZA cZ2 (ZA hkZ3a (ZA hkZ3b (ZA hyZ4 (ZA eZ6 (ZA hyZ7 (ZA eZ9 (ZA hyZ10 (ZA eZ12 (ZA hyZ13 eZ15)))))))))) (ZA S_ag.eq_1 (ZA SX_ag.eq_1 (ZA hlZ5.symm (ZA hlZ8.symm (ZA hlZ11.symm hlZ14.symm)))))
 · cases h
   exact ZL cZ2 (ZA S_ag.eq_1 SX_ag.eq_1)
theorem w_ct (aaZ0:Int) (abZ0:List TFiber) {r:Int×List TFiber} (h:M_ct aaZ0 abZ0=some r):OkM Try.prog 50 [.sl 1000000000 0 abZ0.length,.i aaZ0] [(1000000000,.arr 4 (abZ0.map (e_TFiber .u)))] ((fun (r:Int×List TFiber)=>.i r.1) r) ((fun (r:Int×List TFiber)=>[(1000000000,.arr 4 (r.2.map (e_TFiber .u)))]) r):=by
 refine okM_of_body (lr:=[1000000000]) hmix m50M1 rfl rfl ?_
 unfold M_ct at h
 simp only [ZC,A50M1,V50M1]
 obtain ⟨oZ16,hoZ16,h⟩:=bind_s h
 try refine ZF trivial ?_
 refine join_rule0 (blk_rule0 (loop_rule (w_ag) hoZ16 ?_)) ?_
 · exact ZK (ZA S_ag.eq_1 SX_ag.eq_1)
 · simp only [ZC,SX_ag,A50M1R2]
   cases h
   exact ZL trivial V50M1.eq_1
theorem w_cu (aaZ0:Int) (abZ0:List ByteArray) (acZ0:List TFiber) {r:Int×List ByteArray×List TFiber} (h:M_cu aaZ0 abZ0 acZ0=some r):OkM Try.prog 19 [.agg [.sl 1000000000 0 abZ0.length,.sl 1000000001 0 acZ0.length],.i aaZ0] [(1000000000,.arr 1 (abZ0.map AV.z)),(1000000001,.arr 4 (acZ0.map (e_TFiber .u)))] ((fun (r:Int×List ByteArray×List TFiber)=>.i r.1) r) ((fun (r:Int×List ByteArray×List TFiber)=>[(1000000000,.arr 1 (r.2.1.map AV.z)),(1000000001,.arr 4 (r.2.2.map (e_TFiber .u)))]) r):=by
 refine okM_of_body (lr:=[1000000000,1000000001]) hmix m19M1 rfl rfl ?_
 unfold M_cu at h
 simp only [ZC,A19M1,V19M1]
 obtain ⟨rZ1,hrZ1,h⟩:=bind_s h
 refine ZF trivial ?_
 refine ZW trivial (w_cs _ _ hrZ1) (h2:=by first | exact nm_ok [1000000000] rfl (by decide +kernel) | exact nm_ok2 [1000000000] [] rfl (by decide +kernel) ZQ | exact ZQ) (hk:=?_)
 refine ZG ?_
 obtain ⟨rZ2,hrZ2,h⟩:=bind_s h
 refine ZF trivial ?_
 refine ZW trivial (w_ct _ _ hrZ2) (h2:=by first | exact nm_ok [1000000000] rfl (by decide +kernel) | exact nm_ok2 [1000000000] [] rfl (by decide +kernel) ZQ | exact ZQ) (hk:=?_)
 refine ZG ?_
 cases h
 exact ZL trivial V19M1.eq_1
def S_ah (v:Int×Int×List Int):St:=⟨[(0,.sl 1000000000 0 v.2.2.length),(1,.i v.1),(5,.i v.2.1)],[(1000000000,.arr 1 (v.2.2.map AV.i))]⟩
def SX_ah (v:Int×List Int):St:=⟨[(1,.i v.1)],[(1000000000,.arr 1 (v.2.map AV.i))]⟩
theorem w_ah (sZ1:Int×Int×List Int) (o:(Int×Int×List Int) ⊕ (Int×List Int)) (h:M_ah sZ1=some o):AWP (OkS Try.prog) A20M1L1 (qL [0,1,5] [1000000000] (S_ah) (qX 0 [1] [1000000000] (SX_ah)) o) (S_ah sZ1):=by
 unfold M_ah at h
 simp only [ZC,S_ah,A20M1L1]
 obtain ⟨cZ2,h⟩ | ⟨cZ2,h⟩:=cond_s h
 · obtain ⟨kZ3,hkZ3,h⟩:=bind_s h
   obtain ⟨hkZ3a,hkZ3b⟩:=grd_s hkZ3
   obtain ⟨yZ4,hyZ4,h⟩:=bind_s h
   obtain ⟨lZ5,hlZ5,h⟩:=bnd_s h
   have eZ6:(sZ1.2.2.map AV.i).set (Int.toNat sZ1.2.1) (.i sZ1.1)=lZ5.map AV.i:=by rw [← hlZ5,List.map_set]
   cases h
   exact ZL (ZA cZ2 (ZA hkZ3a (ZA hkZ3b (ZA hyZ4 eZ6)))) (ZA S_ah.eq_1 (ZA SX_ah.eq_1 hlZ5.symm))
 · cases h
   exact ZL cZ2 (ZA S_ah.eq_1 SX_ah.eq_1)
theorem w_cv (aaZ0:Int) (abZ0:List Int) {r:Int×List Int} (h:M_cv aaZ0 abZ0=some r):OkM Try.prog 20 [.sl 1000000000 0 abZ0.length,.i aaZ0] [(1000000000,.arr 1 (abZ0.map AV.i))] ((fun (r:Int×List Int)=>.i r.1) r) ((fun (r:Int×List Int)=>[(1000000000,.arr 1 (r.2.map AV.i))]) r):=by
 refine okM_of_body (lr:=[1000000000]) hmix m20M1 rfl rfl ?_
 unfold M_cv at h
 simp only [ZC,A20M1,V20M1]
 obtain ⟨oZ7,hoZ7,h⟩:=bind_s h
 try refine ZF trivial ?_
 refine join_rule0 (blk_rule0 (loop_rule (w_ah) hoZ7 ?_)) ?_
 · exact ZK (ZA S_ah.eq_1 SX_ah.eq_1)
 · simp only [ZC,SX_ah,A20M1R2]
   cases h
   exact ZL trivial V20M1.eq_1
def S_ai (v:Int×Int×List (List Int)):St:=⟨[(0,.sl 1000000000 0 v.2.2.length),(1,.i v.1),(5,.i v.2.1)],[(1000000000,.arr 1 (v.2.2.map (e_Li .u)))]⟩
def SX_ai (v:Int×List (List Int)):St:=⟨[(1,.i v.1)],[(1000000000,.arr 1 (v.2.map (e_Li .u)))]⟩
theorem w_ai (sZ1:Int×Int×List (List Int)) (o:(Int×Int×List (List Int)) ⊕ (Int×List (List Int))) (h:M_ai sZ1=some o):AWP (OkS Try.prog) A31M1L1 (qL [0,1,5] [1000000000] (S_ai) (qX 0 [1] [1000000000] (SX_ai)) o) (S_ai sZ1):=by
 unfold M_ai at h
 simp only [ZC,S_ai,A31M1L1]
 obtain ⟨cZ2,h⟩ | ⟨cZ2,h⟩:=cond_s h
 · obtain ⟨kZ3,hkZ3,h⟩:=bind_s h
   obtain ⟨hkZ3a,hkZ3b⟩:=grd_s hkZ3
   obtain ⟨yZ4,hyZ4,h⟩:=bind_s h
   obtain ⟨rZ5,hrZ5,h⟩:=bind_s h
   obtain ⟨lZ6,hlZ6,h⟩:=bnd_s h
   have eZ7:(sZ1.2.2.map (e_Li .u)).set (Int.toNat sZ1.2.1) (.lst .u 1 (rZ5.2.map AV.i))=lZ6.map (e_Li .u):=by rw [← hlZ6,List.map_set]; rfl
   refine ZF (ZA cZ2 (ZA hkZ3a (ZA hkZ3b hyZ4))) ?_
   refine inn_s (v:=.int .i64 rZ5.1) (ys':=rZ5.2.map AV.i) (z:=.lst .u 1 (rZ5.2.map AV.i)) (by simp only [VS1,VS2,VS3,VS4,VS5,VS6,VT1,VT2,finM_ret,finM_nrm,decide_true,decide_false,List.nodup_nil,List.nodup_cons,oks_p,oks_m,oks_h,ne_eq,not_false_eq_true,Int.reduceEq,Int.reduceNe,true_and,false_and,Nat.reduceSub,Nat.reduceMul,↓reduceIte,reduceCtorEq,Nat.reduceEqDiff,Nat.reduceAdd,Nat.reduceLeDiff,Int.reduceLE,cZ2,hkZ3a,hkZ3b,hyZ4]; exact w_cv _ _ hrZ5) (by simp [AV.flat,VT1,VT2]) (by simp [fz_mk,fz_bpo,fz_sc,fz_lsto,fz_agg,fz_tup,fz_fn,fz_sl,fz_pt,fz_top,fzL_nil,fzL_cons,ou_sc,ou_lstu,ou_lsto,ou_agg,ouL_nil,ouL_cons,rfz_var,rfz_arr,rfz_dead,fzL_mi,fzL_mb,fzL_mz,fzL_m8,fzL_m64,ouL_m8,ouL_m64,ouL_mi,ouL_mb,ouL_mz,VZ1]) (by simp [VS1,VS2,VS3,VS4,VS5,VS6,VT1,VT2]) (by simp [AV.flat,VT1,VT2]) rfl ?_
   refine ZG ?_
   cases h
   exact ZL (ZA cZ2 (ZA hkZ3a (ZA hkZ3b (ZA hyZ4 eZ7)))) (ZA S_ai.eq_1 (ZA SX_ai.eq_1 hlZ6.symm))
 · cases h
   exact ZL cZ2 (ZA S_ai.eq_1 SX_ai.eq_1)
theorem w_bn (aaZ0:Int) (abZ0:List (List Int)) {r:Int×List (List Int)} (h:M_bn aaZ0 abZ0=some r):OkH Try.prog 31 [.sl 1000000000 0 abZ0.length,.i aaZ0] [(1000000000,.arr 1 (abZ0.map (e_Li .u)))] ((fun (r:Int×List (List Int))=>.i r.1) r) ((fun (r:Int×List (List Int))=>[(1000000000,.arr 1 (r.2.map (e_Li .u)))]) r):=by
 refine okH_of_body (lr:=[1000000000]) hmix m31M1 rfl ?_
 unfold M_bn at h
 simp only [ZC,A31M1,V31M1]
 obtain ⟨oZ8,hoZ8,h⟩:=bind_s h
 try refine ZF trivial ?_
 refine join_rule0 (blk_rule0 (loop_rule (w_ai) hoZ8 ?_)) ?_
 · exact ZK (ZA S_ai.eq_1 SX_ai.eq_1)
 · simp only [ZC,SX_ai,A31M1R2]
   cases h
   exact ZL trivial V31M1.eq_1
def S_aj (aZ0:List Int) (v:Int×Int):St:=⟨[(0,.lst .o 1 (aZ0.map AV.i)),(1,.i v.1),(5,.i v.2)],[]⟩
def SX_aj (v:Int):St:=⟨[(1,.i v)],[]⟩
theorem w_aj (aZ0:List Int) (sZ1:Int×Int) (o:(Int×Int) ⊕ (Int ⊕ Int)) (h:M_aj aZ0 sZ1=some o):AWP (OkS Try.prog) A21L1 (qL [0,1,5] [] (S_aj aZ0) (qS (qX 0 [1] [] (SX_aj)) (qR V21 (fun r=>.i r))) o) (S_aj aZ0 sZ1):=by
 unfold M_aj at h
 simp only [ZC,S_aj,A21L1]
 obtain ⟨cZ2,h⟩ | ⟨cZ2,h⟩:=cond_s h
 · obtain ⟨yZ3,hyZ3,h⟩:=bind_s h
   obtain ⟨hyZ3a,hyZ3b⟩:=geti_s hyZ3
   obtain ⟨cZ4,h⟩ | ⟨cZ4,h⟩:=cond_s h
   · cases h
     exact ZL (ZA cZ2 (ZA hyZ3a (ZA hyZ3b cZ4))) V21.eq_1
   · cases h
     exact ZL (ZA cZ2 (ZA hyZ3a (ZA hyZ3b cZ4))) (ZA S_aj.eq_1 SX_aj.eq_1)
 · cases h
   exact ZL cZ2 (ZA S_aj.eq_1 SX_aj.eq_1)
theorem w_bo (aZ0:List Int) (kZ0:Int) {r:Int} (h:M_bo aZ0 kZ0=some r):Ok Try.prog 21 [.lst .o 1 (aZ0.map AV.i),.i kZ0] ((fun r=>.i r) r):=by
 refine ok_of_body hmix m21 rfl ?_
 unfold M_bo at h
 simp only [ZC,A21,V21,body_eq]
 obtain ⟨oZ5,hoZ5,h⟩:=bind_s h
 try refine ZF trivial ?_
 refine join_rule (o:=oZ5) (blk_rule sideR (loop_rule (w_aj aZ0) hoZ5 ?_)) (fun vZ6 hv=>?_) (fun xZ7 hv e τ hne hq=>?_)
 · exact ZK (ZA S_aj.eq_1 SX_aj.eq_1)
 · subst hv
   simp only [] at h
   simp only [ZC,SX_aj,A21R2]
   cases h
   exact ZL trivial V21.eq_1
 · subst hv
   simp only [] at h
   obtain ⟨rfl,qZ8⟩:=hq
   cases h
   exact qZ8
def S_ak (aZ0:List (List Int)) (v:Int×Int):St:=⟨[(0,.lst .o 1 (aZ0.map (e_Li .o))),(1,.i v.1),(5,.i v.2)],[]⟩
def SX_ak (v:Int):St:=⟨[(1,.i v)],[]⟩
theorem w_ak (aZ0:List (List Int)) (sZ1:Int×Int) (o:(Int×Int) ⊕ (Int ⊕ Int)) (h:M_ak aZ0 sZ1=some o):AWP (OkS Try.prog) A32L1 (qL [0,1,5] [] (S_ak aZ0) (qS (qX 0 [1] [] (SX_ak)) (qR V32 (fun r=>.i r))) o) (S_ak aZ0 sZ1):=by
 unfold M_ak at h
 simp only [ZC,S_ak,A32L1]
 obtain ⟨cZ2,h⟩ | ⟨cZ2,h⟩:=cond_s h
 · obtain ⟨yZ3,hyZ3,h⟩:=bind_s h
   obtain ⟨hyZ3a,hyZ3b⟩:=geti_s hyZ3
   obtain ⟨rZ4,hrZ4,h⟩:=bind_s h
   refine ZF (ZA cZ2 (ZA hyZ3a hyZ3b)) ?_
   refine ZS (ZA cZ2 (ZA hyZ3a hyZ3b)) (w_bo _ _ hrZ4) ?_
   refine ZG ?_
   obtain ⟨cZ5,h⟩ | ⟨cZ5,h⟩:=cond_s h
   · cases h
     exact ZL (ZA cZ2 (ZA hyZ3a (ZA hyZ3b cZ5))) V32.eq_1
   · cases h
     exact ZL (ZA cZ2 (ZA hyZ3a (ZA hyZ3b cZ5))) (ZA S_ak.eq_1 SX_ak.eq_1)
 · cases h
   exact ZL cZ2 (ZA S_ak.eq_1 SX_ak.eq_1)
theorem w_bh (aZ0:List (List Int)) (kZ0:Int) {r:Int} (h:M_bh aZ0 kZ0=some r):Ok Try.prog 32 [.lst .o 1 (aZ0.map (e_Li .o)),.i kZ0] ((fun r=>.i r) r):=by
 refine ok_of_body hmix m32 rfl ?_
 unfold M_bh at h
 simp only [ZC,A32,V32,body_eq]
 obtain ⟨oZ6,hoZ6,h⟩:=bind_s h
 try refine ZF trivial ?_
 refine join_rule (o:=oZ6) (blk_rule sideR (loop_rule (w_ak aZ0) hoZ6 ?_)) (fun vZ7 hv=>?_) (fun xZ8 hv e τ hne hq=>?_)
 · exact ZK (ZA S_ak.eq_1 SX_ak.eq_1)
 · subst hv
   simp only [] at h
   simp only [ZC,SX_ak,A32R2]
   cases h
   exact ZL trivial V32.eq_1
 · subst hv
   simp only [] at h
   obtain ⟨rfl,qZ9⟩:=hq
   cases h
   exact qZ9
theorem w_cx (aNZ0:TNetwork) {r:Bool} (h:M_cx aNZ0=some r):Ok Try.prog 8 [.agg [.lst .o 1 (aNZ0.Nodes.map AV.z),.lst .o 4 (aNZ0.Fibers.map (e_TFiber .o))]] ((fun r=>.b r) r):=by
 refine ok_of_body hmix m8 rfl ?_
 unfold M_cx at h
 simp only [ZC,A8,V8,body_eq]
 obtain ⟨rZ1,hrZ1,h⟩:=bind_s h
 refine ZF trivial ?_
 refine ZS trivial (w_cf _ _ hrZ1) ?_
 refine ZG ?_
 obtain ⟨cZ2,h⟩ | ⟨cZ2,h⟩:=cond_s h
 · cases h
   exact ZL cZ2 V8.eq_1
 · obtain ⟨rZ3,hrZ3,h⟩:=bind_s h
   refine ZF cZ2 ?_
   refine ZU cZ2 (w_au _ hrZ3) ?_
   refine ZG ?_
   obtain ⟨rZ4,hrZ4,h⟩:=bind_s h
   refine ZF cZ2 ?_
   refine ZW cZ2 (w_cc _ _ hrZ4) (h2:=by first | exact nm_ok [2] rfl (by decide +kernel) | exact nm_ok2 [2] [2300002] rfl (by decide +kernel) ZQ | exact ZQ) (hk:=?_)
   refine ZG ?_
   obtain ⟨rZ5,hrZ5,h⟩:=bind_s h
   refine ZF cZ2 ?_
   refine ZU cZ2 (w_au _ hrZ5) ?_
   refine ZG ?_
   obtain ⟨rZ6,hrZ6,h⟩:=bind_s h
   refine ZF cZ2 ?_
   refine ZU cZ2 (w_bf _ hrZ6) ?_
   refine ZG ?_
   obtain ⟨oZ9,hoZ9,h⟩:=bind_s h
   try refine ZF cZ2 ?_
   refine join_rule0 (sh:=(fun v=>⟨[(1,.bp .o (.agg [.lst .o 1 (aNZ0.Nodes.map AV.z),.lst .o 4 (aNZ0.Fibers.map (e_TFiber .o))]) 0),(4,.lst .o 1 (rZ4.2.map (e_Li .o))),(5,.b rZ4.1),(6,.pt 6 0 0),(7,.sl 7 0 rZ6.1.length),(8,.b rZ6.2),(40,.b v)],[(6,.var (.agg [.sl 26 0 rZ5.Nodes.length,.sl 1026 0 rZ5.Fibers.length])),(7,.arr 1 (rZ6.1.map (e_Li .u))),(26,.arr 1 (rZ5.Nodes.map AV.z)),(1026,.arr 4 (rZ5.Fibers.map (e_TFiber .u)))]⟩)) (s:=oZ9) ?_ ?_
   · replace h:=hoZ9
     obtain ⟨rZ7,hrZ7,h⟩:=bind_s h
     refine ZF cZ2 ?_
     refine ZS cZ2 (w_az _ _ hrZ7) ?_
     refine ZG ?_
     obtain ⟨cZ8,h⟩ | ⟨cZ8,h⟩:=cond_s h
     · cases h
       exact ZL (ZA cZ2 cZ8) trivial
     · cases h
       exact ZL (ZA cZ2 cZ8) trivial
   · simp only [ZC,A8R1]
     obtain ⟨cZ10,h⟩ | ⟨cZ10,h⟩:=cond_s h
     · cases h
       exact ZL (ZA cZ2 cZ10) V8.eq_1
     · obtain ⟨rZ11,hrZ11,h⟩:=bind_s h
       refine ZF (ZA cZ2 cZ10) ?_
       refine ZU (ZA cZ2 cZ10) (w_au _ hrZ11) ?_
       refine ZG ?_
       obtain ⟨rZ12,hrZ12,h⟩:=bind_s h
       refine ZF (ZA cZ2 cZ10) ?_
       refine ZS (ZA cZ2 cZ10) (w_cr _ _ hrZ12) ?_
       refine ZG ?_
       obtain ⟨cZ13,h⟩ | ⟨cZ13,h⟩:=cond_s h
       · cases h
         exact ZL (ZA cZ2 (ZA cZ10 cZ13)) V8.eq_1
       · obtain ⟨rZ14,hrZ14,h⟩:=bind_s h
         refine ZF (ZA cZ2 (ZA cZ10 cZ13)) ?_
         refine ZW (ZA cZ2 (ZA cZ10 cZ13)) (w_cu _ _ _ hrZ14) (h2:=by first | exact nm_ok [1000000000,1000000001] rfl (by decide +kernel) | exact nm_ok2 [1000000000,1000000001] [] rfl (by decide +kernel) ZQ | exact ZQ) (hk:=?_)
         refine ZG ?_
         obtain ⟨oZ18,hoZ18,h⟩:=bind_s h
         try refine ZF (ZA cZ2 (ZA cZ10 cZ13)) ?_
         refine join_rule0 (sh:=(fun v=>⟨[(1,.bp .o (.agg [.lst .o 1 (aNZ0.Nodes.map AV.z),.lst .o 4 (aNZ0.Fibers.map (e_TFiber .o))]) 0),(4,.lst .o 1 (rZ4.2.map (e_Li .o))),(5,.b rZ4.1),(7,.sl 7 0 rZ6.1.length),(61,.b v)],[(7,.arr 1 (rZ6.1.map (e_Li .u)))]⟩)) (s:=oZ18) ?_ ?_
         · replace h:=hoZ18
           obtain ⟨cZ15,h⟩ | ⟨cZ15,h⟩:=cond_s h
           · cases h
             exact ZL (ZA cZ2 (ZA cZ10 (ZA cZ13 cZ15))) trivial
           · obtain ⟨rZ16,hrZ16,h⟩:=bind_s h
             refine ZF (ZA cZ2 (ZA cZ10 (ZA cZ13 cZ15))) ?_
             refine ZS (ZA cZ2 (ZA cZ10 (ZA cZ13 cZ15))) (w_az _ _ hrZ16) ?_
             refine ZG ?_
             obtain ⟨cZ17,h⟩ | ⟨cZ17,h⟩:=cond_s h
             · cases h
               exact ZL (ZA cZ2 (ZA cZ10 (ZA cZ13 (ZA cZ15 cZ17)))) trivial
             · cases h
               exact ZL (ZA cZ2 (ZA cZ10 (ZA cZ13 (ZA cZ15 cZ17)))) trivial
         · simp only [ZC,A8R2]
           obtain ⟨cZ19,h⟩ | ⟨cZ19,h⟩:=cond_s h
           · cases h
             exact ZL (ZA cZ2 (ZA cZ10 (ZA cZ13 cZ19))) V8.eq_1
           · obtain ⟨rZ20,hrZ20,h⟩:=bind_s h
             refine ZF (ZA cZ2 (ZA cZ10 (ZA cZ13 cZ19))) ?_
             refine ⟨by simp [fz_mk,fz_bpo,fz_sc,fz_lsto,fz_agg,fz_tup,fz_fn,fz_sl,fz_pt,fz_top,fzL_nil,fzL_cons,ou_sc,ou_lstu,ou_lsto,ou_agg,ouL_nil,ouL_cons,rfz_var,rfz_arr,rfz_dead,fzL_mi,fzL_mb,fzL_mz,fzL_m8,fzL_m64,ouL_m8,ouL_m64,ouL_mi,ouL_mb,ouL_mz,VZ1],call_m (ok:=⟨_,_,_⟩) (by simp only [VS1,VS2,VS3,VS4,VS5,VS6,VT1,VT2,finM_ret,finM_nrm,decide_true,decide_false,List.nodup_nil,List.nodup_cons,oks_p,oks_m,oks_h,ne_eq,not_false_eq_true,Int.reduceEq,Int.reduceNe,true_and,false_and,Nat.reduceSub,Nat.reduceMul,↓reduceIte,reduceCtorEq,Nat.reduceEqDiff,Nat.reduceAdd,Nat.reduceLeDiff,Int.reduceLE,cZ2,cZ10,cZ13,cZ19]; first | exact w_bn _ _ hrZ20 | (have hw:=w_bn _ _ hrZ20; simp only [VS1,VS2,VS3,VS4,VS5,VS6,VT1,VT2,finM_ret,finM_nrm,decide_true,decide_false,List.nodup_nil,List.nodup_cons,oks_p,oks_m,oks_h,ne_eq,not_false_eq_true,Int.reduceEq,Int.reduceNe,true_and,false_and,Nat.reduceSub,Nat.reduceMul,↓reduceIte,reduceCtorEq,Nat.reduceEqDiff,Nat.reduceAdd,Nat.reduceLeDiff,Int.reduceLE,cZ2,cZ10,cZ13,cZ19] at hw; exact hw)) (by simp [VS1,VS2,VS3,VS4,VS5,VS6,VT1,VT2]) (by first | exact nm_ok [1000000000] rfl (by decide +kernel) | exact nm_ok2 [1000000000] [] rfl (by decide +kernel) (by simp [VS1,VS2,VS3,VS4,VS5,VS6,VT1,VT2]) | simp [VS1,VS2,VS3,VS4,VS5,VS6,VT1,VT2]) ?_⟩
             refine ZG ?_
             obtain ⟨lZ21,hlZ21,h⟩:=bnd_s h
             have eZ22:sub (rZ20.2.map (e_Li .u)) 0 rZ6.1.length=lZ21.map (e_Li .u):=by rw [sub_mapT,hlZ21]
             obtain ⟨rZ23,hrZ23,h⟩:=bind_s h
             refine ZF (ZA cZ2 (ZA cZ10 (ZA cZ13 (ZA cZ19 eZ22)))) ?_
             refine ZS (ZA cZ2 (ZA cZ10 (ZA cZ13 (ZA cZ19 eZ22)))) (w_bh _ _ hrZ23) ?_
             refine ZG ?_
             obtain ⟨cZ24,h⟩ | ⟨cZ24,h⟩:=cond_s h
             · cases h
               exact ZL (ZA cZ2 (ZA cZ10 (ZA cZ13 (ZA cZ19 (ZA eZ22 cZ24))))) V8.eq_1
             · obtain ⟨cZ25,h⟩ | ⟨cZ25,h⟩:=cond_s h
               · cases h
                 exact ZL (ZA cZ2 (ZA cZ10 (ZA cZ13 (ZA cZ19 (ZA eZ22 (ZA cZ24 cZ25)))))) V8.eq_1
               · obtain ⟨rZ26,hrZ26,h⟩:=bind_s h
                 refine ZF (ZA cZ2 (ZA cZ10 (ZA cZ13 (ZA cZ19 (ZA eZ22 (ZA cZ24 cZ25)))))) ?_
                 refine ZU (ZA cZ2 (ZA cZ10 (ZA cZ13 (ZA cZ19 (ZA eZ22 (ZA cZ24 cZ25)))))) (w_au _ hrZ26) ?_
                 refine ZG ?_
                 obtain ⟨rZ27,hrZ27,h⟩:=bind_s h
                 refine ZF (ZA cZ2 (ZA cZ10 (ZA cZ13 (ZA cZ19 (ZA eZ22 (ZA cZ24 cZ25)))))) ?_
                 refine ZU (ZA cZ2 (ZA cZ10 (ZA cZ13 (ZA cZ19 (ZA eZ22 (ZA cZ24 cZ25)))))) (w_bf _ hrZ27) ?_
                 refine ZG ?_
                 obtain ⟨oZ30,hoZ30,h⟩:=bind_s h
                 try refine ZF (ZA cZ2 (ZA cZ10 (ZA cZ13 (ZA cZ19 (ZA eZ22 (ZA cZ24 cZ25)))))) ?_
                 refine join_rule0 (sh:=(fun v=>⟨[(7,.sl 7 0 rZ6.1.length),(10,.i rZ20.1),(87,.b v)],[(7,.arr 1 (rZ20.2.map (e_Li .u)))]⟩)) (s:=oZ30) ?_ ?_
                 · replace h:=hoZ30
                   obtain ⟨rZ28,hrZ28,h⟩:=bind_s h
                   refine ZF (ZA cZ2 (ZA cZ10 (ZA cZ13 (ZA cZ19 (ZA eZ22 (ZA cZ24 cZ25)))))) ?_
                   refine ZS (ZA cZ2 (ZA cZ10 (ZA cZ13 (ZA cZ19 (ZA eZ22 (ZA cZ24 cZ25)))))) (w_az _ _ hrZ28) ?_
                   refine ZG ?_
                   obtain ⟨cZ29,h⟩ | ⟨cZ29,h⟩:=cond_s h
                   · cases h
                     exact ZL (ZA cZ2 (ZA cZ10 (ZA cZ13 (ZA cZ19 (ZA eZ22 (ZA cZ24 (ZA cZ25 cZ29))))))) trivial
                   · cases h
                     exact ZL (ZA cZ2 (ZA cZ10 (ZA cZ13 (ZA cZ19 (ZA eZ22 (ZA cZ24 (ZA cZ25 cZ29))))))) trivial
                 · simp only [ZC,A8R3]
                   obtain ⟨cZ31,h⟩ | ⟨cZ31,h⟩:=cond_s h
                   · cases h
                     exact ZL (ZA cZ2 (ZA cZ10 (ZA cZ13 (ZA cZ19 (ZA eZ22 (ZA cZ24 (ZA cZ25 cZ31))))))) V8.eq_1
                   · obtain ⟨rZ32,hrZ32,h⟩:=bind_s h
                     refine ZF (ZA cZ2 (ZA cZ10 (ZA cZ13 (ZA cZ19 (ZA eZ22 (ZA cZ24 (ZA cZ25 cZ31))))))) ?_
                     refine ZS (ZA cZ2 (ZA cZ10 (ZA cZ13 (ZA cZ19 (ZA eZ22 (ZA cZ24 (ZA cZ25 cZ31))))))) (w_bh _ _ hrZ32) ?_
                     refine ZG ?_
                     obtain ⟨cZ33,h⟩ | ⟨cZ33,h⟩:=cond_s h
                     · cases h
                       exact ZL (ZA cZ2 (ZA cZ10 (ZA cZ13 (ZA cZ19 (ZA eZ22 (ZA cZ24 (ZA cZ25 (ZA cZ31 cZ33)))))))) V8.eq_1
                     · obtain ⟨cZ34,h⟩ | ⟨cZ34,h⟩:=cond_s h
                       · cases h
                         exact ZL (ZA cZ2 (ZA cZ10 (ZA cZ13 (ZA cZ19 (ZA eZ22 (ZA cZ24 (ZA cZ25 (ZA cZ31 (ZA cZ33 cZ34))))))))) V8.eq_1
                       · cases h
                         exact ZL (ZA cZ2 (ZA cZ10 (ZA cZ13 (ZA cZ19 (ZA eZ22 (ZA cZ24 (ZA cZ25 (ZA cZ31 (ZA cZ33 cZ34))))))))) V8.eq_1
end Vs

