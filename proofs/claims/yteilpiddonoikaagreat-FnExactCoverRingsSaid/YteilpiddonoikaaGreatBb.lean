/-
  Part of the proof that the law FnExactCoverRings returns true at every input; no condition beside the row's own.
-/
import Derived.Test.YteilpiddonoikaaGreatBa
set_option linter.defProp false
set_option linter.unusedSimpArgs false
set_option linter.unusedVariables false
set_option maxHeartbeats 1000000
set_option maxRecDepth 8000
namespace Vs
open Go Go.Proofs
attribute [local irreducible] AWP stOps eff awpC callA callM
theorem VT1:(∀ (f:Fl) (x:TFiber),e_TFiber f x=.agg [.i x.A,.i x.B,.i x.Length,.i x.Risk]) ∧
 (∀ (f:Fl) (x:TNetwork),e_TNetwork f x=.agg [.lst f 1 (x.Nodes.map AV.z),.lst f 4 (x.Fibers.map (e_TFiber f))]) ∧
 (∀ (f:Fl) (x:List Int),e_Li f x=.lst f 1 (x.map AV.i)) ∧
 (∀ (f:Fl) (x:Tl17Search),e_Tl17Search f x=.agg [.lst f 1 (x.n.Nodes.map AV.z),.lst f 4 (x.n.Fibers.map (e_TFiber f)),.lst f 1 (x.list.map (e_Li f))]) ∧
 (∀ (x:Value) (f:Nat) (cs:List AV),setPart (.sc x) 0 (.fn f cs)=some (.fn f cs)):=⟨fun _ _=>rfl,fun _ _=>rfl,fun _ _=>rfl,fun _ _=>rfl,fun _ _ _=>rfl⟩
theorem shape_e_Li (f:Fl) (x:List Int) (v:Value) (w:World) (S:Nat→Prop) (B:Nat) (fp:List Nat) (h:RepP w S B v (e_Li f x) fp) (_:v.cells.size=1):sh1 v:=shape_lst h
theorem VT2:(∀ (f:Fl) (x:TFiber),(e_TFiber f x).nrm=e_TFiber .o x) ∧
 (∀ (f:Fl) (xs:List TFiber),(xs.map (e_TFiber f)).map AV.nrm=xs.map (e_TFiber .o)) ∧
 (∀ (f:Fl) (x:TFiber),(e_TFiber f x).als=e_TFiber f.als x) ∧
 (∀ (f:Fl) (xs:List TFiber),(xs.map (e_TFiber f)).map AV.als=xs.map (e_TFiber f.als)) ∧
 (∀ (f:Fl),AV.als ∘ e_TFiber f=e_TFiber f.als) ∧
 (∀ (f:Fl) (x:TFiber),(e_TFiber f x).fix=e_TFiber f.fix x) ∧
 (∀ (f:Fl) (xs:List TFiber),(xs.map (e_TFiber f)).map AV.fix=xs.map (e_TFiber f.fix)) ∧
 (∀ (f:Fl) (x:TNetwork),(e_TNetwork f x).nrm=e_TNetwork .o x) ∧
 (∀ (f:Fl) (xs:List TNetwork),(xs.map (e_TNetwork f)).map AV.nrm=xs.map (e_TNetwork .o)) ∧
 (∀ (f:Fl) (x:TNetwork),(e_TNetwork f x).als=e_TNetwork f.als x) ∧
 (∀ (f:Fl) (xs:List TNetwork),(xs.map (e_TNetwork f)).map AV.als=xs.map (e_TNetwork f.als)) ∧
 (∀ (f:Fl),AV.als ∘ e_TNetwork f=e_TNetwork f.als) ∧
 (∀ (f:Fl) (x:TNetwork),(e_TNetwork f x).fix=e_TNetwork f.fix x) ∧
 (∀ (f:Fl) (xs:List TNetwork),(xs.map (e_TNetwork f)).map AV.fix=xs.map (e_TNetwork f.fix)) ∧
 (∀ (f:Fl) (x:List Int),(e_Li f x).nrm=e_Li .o x) ∧
 (∀ (f:Fl) (xs:List (List Int)),(xs.map (e_Li f)).map AV.nrm=xs.map (e_Li .o)) ∧
 (∀ (f:Fl) (x:List Int),(e_Li f x).als=e_Li f.als x) ∧
 (∀ (f:Fl) (xs:List (List Int)),(xs.map (e_Li f)).map AV.als=xs.map (e_Li f.als)) ∧
 (∀ (f:Fl),AV.als ∘ e_Li f=e_Li f.als) ∧
 (∀ (f:Fl) (x:List Int),(e_Li f x).fix=e_Li f.fix x) ∧
 (∀ (f:Fl) (xs:List (List Int)),(xs.map (e_Li f)).map AV.fix=xs.map (e_Li f.fix)) ∧
 (∀ (f:Fl) (x:Tl17Search),(e_Tl17Search f x).nrm=e_Tl17Search .o x) ∧
 (∀ (f:Fl) (xs:List Tl17Search),(xs.map (e_Tl17Search f)).map AV.nrm=xs.map (e_Tl17Search .o)) ∧
 (∀ (f:Fl) (x:Tl17Search),(e_Tl17Search f x).als=e_Tl17Search f.als x) ∧
 (∀ (f:Fl) (xs:List Tl17Search),(xs.map (e_Tl17Search f)).map AV.als=xs.map (e_Tl17Search f.als)) ∧
 (∀ (f:Fl),AV.als ∘ e_Tl17Search f=e_Tl17Search f.als) ∧
 (∀ (f:Fl) (x:Tl17Search),(e_Tl17Search f x).fix=e_Tl17Search f.fix x) ∧
 (∀ (f:Fl) (xs:List Tl17Search),(xs.map (e_Tl17Search f)).map AV.fix=xs.map (e_Tl17Search f.fix)) :=
 ⟨@e_TFiber_nrm,@e_TFiber_nrmm,@e_TFiber_als,@e_TFiber_alsm,@e_TFiber_alsc,@e_TFiber_fix,@e_TFiber_fixm,@e_TNetwork_nrm,@e_TNetwork_nrmm,@e_TNetwork_als,@e_TNetwork_alsm,@e_TNetwork_alsc,@e_TNetwork_fix,@e_TNetwork_fixm,@e_Li_nrm,@e_Li_nrmm,@e_Li_als,@e_Li_alsm,@e_Li_alsc,@e_Li_fix,@e_Li_fixm,@e_Tl17Search_nrm,@e_Tl17Search_nrmm,@e_Tl17Search_als,@e_Tl17Search_alsm,@e_Tl17Search_alsc,@e_Tl17Search_fix,@e_Tl17Search_fixm⟩
theorem VF1:(∀ (f:Fl) (x:TFiber),(e_TFiber f x).fix=e_TFiber f.fix x) ∧
 (∀ (f:Fl) (xs:List TFiber),(xs.map (e_TFiber f)).map AV.fix=xs.map (e_TFiber f.fix)) ∧
 (∀ (f:Fl) (x:TNetwork),(e_TNetwork f x).fix=e_TNetwork f.fix x) ∧
 (∀ (f:Fl) (xs:List TNetwork),(xs.map (e_TNetwork f)).map AV.fix=xs.map (e_TNetwork f.fix)) ∧
 (∀ (f:Fl) (x:List Int),(e_Li f x).fix=e_Li f.fix x) ∧
 (∀ (f:Fl) (xs:List (List Int)),(xs.map (e_Li f)).map AV.fix=xs.map (e_Li f.fix)) ∧
 (∀ (f:Fl) (x:Tl17Search),(e_Tl17Search f x).fix=e_Tl17Search f.fix x) ∧
 (∀ (f:Fl) (xs:List Tl17Search),(xs.map (e_Tl17Search f)).map AV.fix=xs.map (e_Tl17Search f.fix)) :=
 ⟨@e_TFiber_fix,@e_TFiber_fixm,@e_TNetwork_fix,@e_TNetwork_fixm,@e_Li_fix,@e_Li_fixm,@e_Tl17Search_fix,@e_Tl17Search_fixm⟩
theorem VZ1:(∀ (x:TFiber),(e_TFiber .o x).fz=true) ∧
 (∀ (xs:List TFiber),fzL (xs.map (e_TFiber .o))=true) ∧
 (∀ (x:TFiber),(e_TFiber .u x).ouB=true) ∧
 (∀ (xs:List TFiber),ouBL (xs.map (e_TFiber .u))=true) ∧
 (∀ (x:TNetwork),(e_TNetwork .o x).fz=true) ∧
 (∀ (xs:List TNetwork),fzL (xs.map (e_TNetwork .o))=true) ∧
 (∀ (x:TNetwork),(e_TNetwork .u x).ouB=true) ∧
 (∀ (xs:List TNetwork),ouBL (xs.map (e_TNetwork .u))=true) ∧
 (∀ (x:List Int),(e_Li .o x).fz=true) ∧
 (∀ (xs:List (List Int)),fzL (xs.map (e_Li .o))=true) ∧
 (∀ (x:List Int),(e_Li .u x).ouB=true) ∧
 (∀ (xs:List (List Int)),ouBL (xs.map (e_Li .u))=true) ∧
 (∀ (x:Tl17Search),(e_Tl17Search .o x).fz=true) ∧
 (∀ (xs:List Tl17Search),fzL (xs.map (e_Tl17Search .o))=true) ∧
 (∀ (x:Tl17Search),(e_Tl17Search .u x).ouB=true) ∧
 (∀ (xs:List Tl17Search),ouBL (xs.map (e_Tl17Search .u))=true) :=
 ⟨@e_TFiber_fz,@e_TFiber_fzm,@e_TFiber_ou,@e_TFiber_oum,@e_TNetwork_fz,@e_TNetwork_fzm,@e_TNetwork_ou,@e_TNetwork_oum,@e_Li_fz,@e_Li_fzm,@e_Li_ou,@e_Li_oum,@e_Tl17Search_fz,@e_Tl17Search_fzm,@e_Tl17Search_ou,@e_Tl17Search_oum⟩
theorem VE1:e_TFiber .o=e_TFiber .u∧e_TFiber .m=e_TFiber .u∧e_TFiber .s=e_TFiber .u:=⟨rfl,rfl,rfl⟩
theorem Zr {α:Type} (n:Nat) (a:α):(List.replicate n a).length=n:=List.length_replicate
theorem ZA {A B:Prop} (a:A) (b:B):A∧B:=⟨a,b⟩
theorem ZF {A:Prop} (a:A) {P Q:Prop} (k:Q) (e:A→P=Q:=by intro a; simp only [VS1,VS2,VS3,VS4,VS5,VS6,VT1,VT2,finM_ret,finM_nrm,decide_true,decide_false,List.nodup_nil,List.nodup_cons,oks_p,oks_m,oks_h,ne_eq,not_false_eq_true,Int.reduceEq,Int.reduceNe,true_and,false_and,Nat.reduceSub,Nat.reduceMul,↓reduceIte,reduceCtorEq,Nat.reduceEqDiff,Nat.reduceAdd,Nat.reduceLeDiff,Int.reduceLE,a]; exact Eq.refl _):P:=(e a).mpr k
theorem ZG {P Q:Prop} (k:Q) (e:P=Q:=by simp only [VA,VF1,↓reduceIte,Nat.reduceEqDiff,Nat.reduceAdd,Nat.reduceMul,Nat.reduceSub,Nat.reduceLeDiff]; exact Eq.refl _):P:=e.mpr k
theorem ZL {A:Prop} (a:A) {B:Prop} (b:B) {P:Prop} (e:A→B→P:=by intro a b; (try simp only [VS1,VS2,VS3,VS4,VS5,VS6,VT1,VT2,finM_ret,finM_nrm,decide_true,decide_false,List.nodup_nil,List.nodup_cons,oks_p,oks_m,oks_h,ne_eq,not_false_eq_true,Int.reduceEq,Int.reduceNe,true_and,false_and,Nat.reduceSub,Nat.reduceMul,↓reduceIte,reduceCtorEq,Nat.reduceEqDiff,Nat.reduceAdd,Nat.reduceLeDiff,Int.reduceLE,a]); all_goals first | (simp [qL,qJ,qJ0,qS,qX,qR,qM,Shp,sub,tupd,finM_ret,finM_nrm,VS1,VS2,VS3,VS4,VS5,VS6,VT1,VT2,b]; done) | simp [qL,qJ,qJ0,qS,qX,qR,qM,Shp,sub,tupd,finM_ret,finM_nrm,VS1,VS2,VS3,VS4,VS5,VS6,VT1,VT2,VE1,b]):P:=e a b
theorem ZK {B:Prop} (b:B) {P:Prop} (e:B→P:=by intro b; simp [qL,qJ,qJ0,qS,qX,qR,qM,Shp,sub,tupd,finM_ret,finM_nrm,VS1,VS2,VS3,VS4,VS5,VS6,VT1,VT2,b]):P:=e b
theorem ZS {A:Prop} (a:A) {W:Prop} (w:W) {ok:Oks} {ρ:Nat→Option Row} {d f:Nat} {args:List AV} {K:AV→List (Nat×Row)→Prop} {v:Value} (hk:K (.sc v) [])
 (e:A→W→ok.p f (args.map (snp ρ 4)) (.sc v):=by intro a w; simp only [VS1,VS2,VS3,VS4,VS5,VS6,VT1,VT2,finM_ret,finM_nrm,decide_true,decide_false,List.nodup_nil,List.nodup_cons,oks_p,oks_m,oks_h,ne_eq,not_false_eq_true,Int.reduceEq,Int.reduceNe,true_and,false_and,Nat.reduceSub,Nat.reduceMul,↓reduceIte,reduceCtorEq,Nat.reduceEqDiff,Nat.reduceAdd,Nat.reduceLeDiff,Int.reduceLE,a]; exact w):callA ok ρ d f args K:=call_s (e a w) hk
theorem ZU {A:Prop} (a:A) {W:Prop} (w:W) {ok:Oks} {ρ:Nat→Option Row} {d f:Nat} {args:List AV} {K:AV→List (Nat×Row)→Prop} {res:AV} (hk:K (adopt 4 d res).1 (adopt 4 d res).2.1)
 (e:A→W→ok.p f (args.map (snp ρ 4)) res:=by intro a w; simp only [VS1,VS2,VS3,VS4,VS5,VS6,VT1,VT2,finM_ret,finM_nrm,decide_true,decide_false,List.nodup_nil,List.nodup_cons,oks_p,oks_m,oks_h,ne_eq,not_false_eq_true,Int.reduceEq,Int.reduceNe,true_and,false_and,Nat.reduceSub,Nat.reduceMul,↓reduceIte,reduceCtorEq,Nat.reduceEqDiff,Nat.reduceAdd,Nat.reduceLeDiff,Int.reduceLE,a]; exact w) (hu:res.allU:=by simp [AV.allU,allUL,allUL_iff,VT1,VT2]) (hn:∀ p∈(adopt 4 d res).2.1,ρ p.1=none∧p.1 < 1000000000:=by simp only [VS1,VS2,VS3,VS4,VS5,VS6,VT1,VT2,finM_ret,finM_nrm,decide_true,decide_false,List.nodup_nil,List.nodup_cons,oks_p,oks_m,oks_h,ne_eq,not_false_eq_true,Int.reduceEq,Int.reduceNe,true_and,false_and,Nat.reduceSub,Nat.reduceMul,↓reduceIte,reduceCtorEq,Nat.reduceEqDiff,Nat.reduceAdd,Nat.reduceLeDiff,Int.reduceLE,Nat.reduceLT]):callA ok ρ d f args K:=call_u (e a w) hu hn hk
theorem ZQ {P:Prop} (e:P:=by simp [VS1,VS2,VS3,VS4,VS5,VS6,VT1,VT2]):P:=e
theorem ZW {A:Prop} (a:A) {W:Prop} (w:W) {ok:Oks} {ρ:Nat→Option Row} {d f:Nat} {args:List AV} {rs:List Nat} {K:AV→List (Nat×Row)→Prop} {res:AV} {outs:List (Nat×Row)}
 (e:A→W→ok.m f (args.map (AV.rg (cnm rs))) (rs.map (rowIn ρ rs)) res outs:=by intro a w; simp only [VS1,VS2,VS3,VS4,VS5,VS6,VT1,VT2,finM_ret,finM_nrm,decide_true,decide_false,List.nodup_nil,List.nodup_cons,oks_p,oks_m,oks_h,ne_eq,not_false_eq_true,Int.reduceEq,Int.reduceNe,true_and,false_and,Nat.reduceSub,Nat.reduceMul,↓reduceIte,reduceCtorEq,Nat.reduceEqDiff,Nat.reduceAdd,Nat.reduceLeDiff,Int.reduceLE,a]; first | exact w | (simp only [VS1,VS2,VS3,VS4,VS5,VS6,VT1,VT2,finM_ret,finM_nrm,decide_true,decide_false,List.nodup_nil,List.nodup_cons,oks_p,oks_m,oks_h,ne_eq,not_false_eq_true,Int.reduceEq,Int.reduceNe,true_and,false_and,Nat.reduceSub,Nat.reduceMul,↓reduceIte,reduceCtorEq,Nat.reduceEqDiff,Nat.reduceAdd,Nat.reduceLeDiff,Int.reduceLE,a] at w; exact w))
 (h1:rs.Nodup∧(∀ r∈rs,isLive (ρ r))∧(∀ r∈rs,∀ q∈oments (ρ r),q∈rs)∧(∀ r∈mentsL args,r∈rs):=by simp [VS1,VS2,VS3,VS4,VS5,VS6,VT1,VT2])
 (h2:(outs.map fun p=>bkn d rs p.1).Nodup∧(∀ p∈outs,1000000000≤p.1→p.1 - 1000000000 < rs.length)∧(∀ p∈outs,p.1 < 1000000000→ρ (bkn d rs p.1)=none∧bkn d rs p.1 < 1000000000))
 (hk:K (res.rg (bkn d rs)) (gone rs++outs.map (rowBk d rs))):callM ok ρ d f args rs K:=call_m (e a w) h1 h2 hk
def S_w (aZ0:List ByteArray) (v:Int×Int):St:=⟨[(0,.lst .o 1 (aZ0.map AV.z)),(1,.i v.1),(5,.i v.2)],[]⟩
def SX_w (v:Int):St:=⟨[(1,.i v)],[]⟩
theorem w_w (aZ0:List ByteArray) (sZ2:Int×Int) (o:(Int×Int) ⊕ (Int ⊕ Int)) (h:M_w aZ0 sZ2=some o):AWP (OkS Tryz.prog) A43L1 (qL [0,1,5] [] (S_w aZ0) (qS (qX 0 [1] [] (SX_w)) (qR V43 (fun r=>.i r))) o) (S_w aZ0 sZ2):=by
 unfold M_w at h
 simp only [ZC,S_w,A43L1]
 obtain ⟨cZ3,h⟩ | ⟨cZ3,h⟩:=cond_s h
 · obtain ⟨yZ4,hyZ4,h⟩:=bind_s h
   obtain ⟨hyZ4a,hyZ4b⟩:=geti_s hyZ4
   obtain ⟨cZ5,h⟩ | ⟨cZ5,h⟩:=cond_s h
   · cases h
     exact ZL (ZA cZ3 (ZA hyZ4a (ZA hyZ4b cZ5))) V43.eq_1
   · cases h
     exact ZL (ZA cZ3 (ZA hyZ4a (ZA hyZ4b cZ5))) (ZA S_w.eq_1 SX_w.eq_1)
 · cases h
   exact ZL cZ3 (ZA S_w.eq_1 SX_w.eq_1)
theorem w_ck (aZ0:List ByteArray) (leftZ0:Int) {r:Int} (h:M_ck aZ0 leftZ0=some r):Ok Tryz.prog 43 [.lst .o 1 (aZ0.map AV.z),.i leftZ0] ((fun r=>.i r) r):=by
 refine ok_of_body hmix m43 rfl ?_
 unfold M_ck at h
 simp only [ZC,A43,V43,body_eq]
 obtain ⟨cZ1,h⟩ | ⟨cZ1,h⟩:=cond_s h
 · cases h
   exact ZL cZ1 V43.eq_1
 · obtain ⟨oZ6,hoZ6,h⟩:=bind_s h
   try refine ZF cZ1 ?_
   refine join_rule (o:=oZ6) (blk_rule sideR (loop_rule (w_w aZ0) hoZ6 ?_)) (fun vZ7 hv=>?_) (fun xZ8 hv e τ hne hq=>?_)
   · exact ZK (ZA S_w.eq_1 SX_w.eq_1)
   · subst hv
     simp only [] at h
     simp only [ZC,SX_w,A43R2]
     cases h
     exact ZL cZ1 V43.eq_1
   · subst hv
     simp only [] at h
     obtain ⟨rfl,qZ9⟩:=hq
     cases h
     exact qZ9
theorem w_cl (aZ0:List TFiber) (leftZ0:Int) {r:Int} (h:M_cl aZ0 leftZ0=some r):Ok Tryz.prog 44 [.lst .o 4 (aZ0.map (e_TFiber .o)),.i leftZ0] ((fun r=>.i r) r):=by
 refine ok_of_body hmix m44 rfl ?_
 unfold M_cl at h
 simp only [ZC,A44,V44,body_eq]
 obtain ⟨cZ1,h⟩ | ⟨cZ1,h⟩:=cond_s h
 · cases h
   exact ZL cZ1 V44.eq_1
 · cases h
   exact ZL cZ1 V44.eq_1
theorem w_cm (aZ0:TNetwork) (leftZ0:Int) {r:Int} (h:M_cm aZ0 leftZ0=some r):Ok Tryz.prog 8 [.agg [.lst .o 1 (aZ0.Nodes.map AV.z),.lst .o 4 (aZ0.Fibers.map (e_TFiber .o))],.i leftZ0] ((fun r=>.i r) r):=by
 refine ok_of_body hmix m8 rfl ?_
 unfold M_cm at h
 simp only [ZC,A8,V8,body_eq]
 obtain ⟨rZ1,hrZ1,h⟩:=bind_s h
 refine ZF trivial ?_
 refine ZS trivial (w_ck _ _ hrZ1) ?_
 refine ZG ?_
 obtain ⟨cZ2,h⟩ | ⟨cZ2,h⟩:=cond_s h
 · cases h
   exact ZL cZ2 V8.eq_1
 · obtain ⟨rZ3,hrZ3,h⟩:=bind_s h
   refine ZF cZ2 ?_
   refine ZS cZ2 (w_cl _ _ hrZ3) ?_
   refine ZG ?_
   obtain ⟨cZ4,h⟩ | ⟨cZ4,h⟩:=cond_s h
   · cases h
     exact ZL (ZA cZ2 cZ4) V8.eq_1
   · cases h
     exact ZL (ZA cZ2 cZ4) V8.eq_1
def S_x (aZ0:List ByteArray) (v:Int×List ByteArray):St:=⟨[(0,.lst .o 1 (aZ0.map AV.z)),(3,.sl 3 0 v.2.length),(4,.i v.1)],[(3,.arr 1 (v.2.map AV.z))]⟩
def SX_x (v:List ByteArray):St:=⟨[(3,.sl 3 0 v.length)],[(3,.arr 1 (v.map AV.z))]⟩
theorem w_x (aZ0:List ByteArray) (sZ4:Int×List ByteArray) (o:(Int×List ByteArray) ⊕ (List ByteArray)) (h:M_x aZ0 sZ4=some o):AWP (OkS Tryz.prog) A46L1 (qL [0,3,4] [3] (S_x aZ0) (qX 0 [3] [3] (SX_x)) o) (S_x aZ0 sZ4):=by
 unfold M_x at h
 simp only [ZC,S_x,A46L1]
 obtain ⟨cZ5,h⟩ | ⟨cZ5,h⟩:=cond_s h
 · obtain ⟨yZ6,hyZ6,h⟩:=bind_s h
   obtain ⟨hyZ6a,hyZ6b⟩:=geti_s hyZ6
   obtain ⟨kZ7,hkZ7,h⟩:=bind_s h
   obtain ⟨hkZ7a,hkZ7b⟩:=grd_s hkZ7
   obtain ⟨yZ8,hyZ8,h⟩:=bind_s h
   obtain ⟨lZ9,hlZ9,h⟩:=bnd_s h
   have eZ10:(sZ4.2.map AV.z).set (Int.toNat sZ4.1) (.z yZ6)=lZ9.map AV.z:=by rw [← hlZ9,List.map_set]
   cases h
   exact ZL (ZA cZ5 (ZA hyZ6a (ZA hyZ6b (ZA hkZ7a (ZA hkZ7b (ZA hyZ8 eZ10)))))) (ZA S_x.eq_1 (ZA SX_x.eq_1 hlZ9.symm))
 · cases h
   exact ZL cZ5 (ZA S_x.eq_1 SX_x.eq_1)
theorem w_cn (aZ0:List ByteArray) {r:List ByteArray} (h:M_cn aZ0=some r):Ok Tryz.prog 46 [.lst .o 1 (aZ0.map AV.z)] ((fun r=>.lst .u 1 (r.map AV.z)) r):=by
 refine ok_of_body hmix m46 rfl ?_
 unfold M_cn at h
 simp only [ZC,A46,V46,body_eq]
 obtain ⟨uZ1,huZ1,h⟩:=bind_s h
 obtain ⟨huZ11,huZ12,huZ13,huZ14⟩:=grd_s huZ1
 obtain ⟨lZ2,hlZ2,h⟩:=bnd_s h
 have eZ3:List.replicate (Int.toNat (aZ0.length:Int)) (.z (⟨#[]⟩:ByteArray):AV)=lZ2.map AV.z:=by rw [← hlZ2,List.map_replicate]
 obtain ⟨oZ11,hoZ11,h⟩:=bind_s h
 try refine ZF (ZA huZ11 (ZA huZ12 (ZA huZ13 (ZA huZ14 eZ3)))) ?_
 refine join_rule0 (blk_rule0 (loop_rule (w_x aZ0) hoZ11 ?_)) ?_
 · exact ZK (ZA S_x.eq_1 (ZA SX_x.eq_1 (ZA hlZ2.symm @Zr)))
 · simp only [ZC,SX_x,A46R2]
   cases h
   exact ZL (ZA huZ11 (ZA huZ12 (ZA huZ13 (ZA huZ14 eZ3)))) V46.eq_1
theorem w_ce (aZ0:TFiber) {r:TFiber} (h:M_ce aZ0=some r):Ok Tryz.prog 92 [.agg [.i aZ0.A,.i aZ0.B,.i aZ0.Length,.i aZ0.Risk]] ((fun r=>.agg [.i r.A,.i r.B,.i r.Length,.i r.Risk]) r):=by
 refine ok_of_body hmix m92 rfl ?_
 unfold M_ce at h
 simp only [ZC,A92,V92,body_eq]
 cases h
 exact ZL trivial V92.eq_1
def S_y (aZ0:List TFiber) (v:Int×List TFiber):St:=⟨[(0,.lst .o 4 (aZ0.map (e_TFiber .o))),(3,.sl 3 0 v.2.length),(4,.i v.1)],[(3,.arr 4 (v.2.map (e_TFiber .u)))]⟩
def SX_y (v:List TFiber):St:=⟨[(3,.sl 3 0 v.length)],[(3,.arr 4 (v.map (e_TFiber .u)))]⟩
theorem w_y (aZ0:List TFiber) (sZ4:Int×List TFiber) (o:(Int×List TFiber) ⊕ (List TFiber)) (h:M_y aZ0 sZ4=some o):AWP (OkS Tryz.prog) A47L1 (qL [0,3,4] [3] (S_y aZ0) (qX 0 [3] [3] (SX_y)) o) (S_y aZ0 sZ4):=by
 unfold M_y at h
 simp only [ZC,S_y,A47L1]
 obtain ⟨cZ5,h⟩ | ⟨cZ5,h⟩:=cond_s h
 · obtain ⟨yZ6,hyZ6,h⟩:=bind_s h
   obtain ⟨hyZ6a,hyZ6b⟩:=geti_s hyZ6
   obtain ⟨rZ7,hrZ7,h⟩:=bind_s h
   refine ZF (ZA cZ5 (ZA hyZ6a hyZ6b)) ?_
   refine ZU (ZA cZ5 (ZA hyZ6a hyZ6b)) (w_ce _ hrZ7) ?_
   refine ZG ?_
   obtain ⟨kZ8,hkZ8,h⟩:=bind_s h
   obtain ⟨hkZ8a,hkZ8b⟩:=grd_s hkZ8
   obtain ⟨yZ9,hyZ9,h⟩:=bind_s h
   obtain ⟨lZ10,hlZ10,h⟩:=bnd_s h
   have eZ11:(sZ4.2.map (e_TFiber .u)).set (Int.toNat sZ4.1) (.agg [.i rZ7.A,.i rZ7.B,.i rZ7.Length,.i rZ7.Risk])=lZ10.map (e_TFiber .u):=by rw [← hlZ10,List.map_set]; rfl
   cases h
   exact ZL (ZA cZ5 (ZA hyZ6a (ZA hyZ6b (ZA hkZ8a (ZA hkZ8b (ZA hyZ9 eZ11)))))) (ZA S_y.eq_1 (ZA SX_y.eq_1 hlZ10.symm))
 · cases h
   exact ZL cZ5 (ZA S_y.eq_1 SX_y.eq_1)
theorem w_co (aZ0:List TFiber) {r:List TFiber} (h:M_co aZ0=some r):Ok Tryz.prog 47 [.lst .o 4 (aZ0.map (e_TFiber .o))] ((fun r=>.lst .u 4 (r.map (e_TFiber .u))) r):=by
 refine ok_of_body hmix m47 rfl ?_
 unfold M_co at h
 simp only [ZC,A47,V47,body_eq]
 obtain ⟨uZ1,huZ1,h⟩:=bind_s h
 obtain ⟨huZ11,huZ12,huZ13,huZ14⟩:=grd_s huZ1
 obtain ⟨lZ2,hlZ2,h⟩:=bnd_s h
 have eZ3:List.replicate (Int.toNat (aZ0.length:Int)) (.agg [.i 0,.i 0,.i 0,.i 0]:AV)=lZ2.map (e_TFiber .u):=by rw [← hlZ2,List.map_replicate]; rfl
 obtain ⟨oZ12,hoZ12,h⟩:=bind_s h
 try refine ZF (ZA huZ11 (ZA huZ12 (ZA huZ13 (ZA huZ14 eZ3)))) ?_
 refine join_rule0 (blk_rule0 (loop_rule (w_y aZ0) hoZ12 ?_)) ?_
 · exact ZK (ZA S_y.eq_1 (ZA SX_y.eq_1 (ZA hlZ2.symm @Zr)))
 · simp only [ZC,SX_y,A47R2]
   cases h
   exact ZL (ZA huZ11 (ZA huZ12 (ZA huZ13 (ZA huZ14 eZ3)))) V47.eq_1
theorem w_bj (aZ0:TNetwork) {r:TNetwork} (h:M_bj aZ0=some r):Ok Tryz.prog 10 [.agg [.lst .o 1 (aZ0.Nodes.map AV.z),.lst .o 4 (aZ0.Fibers.map (e_TFiber .o))]] ((fun r=>.agg [.lst .u 1 (r.Nodes.map AV.z),.lst .u 4 (r.Fibers.map (e_TFiber .u))]) r):=by
 refine ok_of_body hmix m10 rfl ?_
 unfold M_bj at h
 simp only [ZC,A10,V10,body_eq]
 obtain ⟨rZ1,hrZ1,h⟩:=bind_s h
 refine ZF trivial ?_
 refine ZU trivial (w_cn _ hrZ1) ?_
 refine ZG ?_
 obtain ⟨rZ2,hrZ2,h⟩:=bind_s h
 refine ZF trivial ?_
 refine ZU trivial (w_co _ hrZ2) ?_
 refine ZG ?_
 cases h
 exact ZL trivial V10.eq_1
theorem w_bd (xZ0:Int) (aZ0:Int) (bZ0:Int) {r:Bool} (h:M_bd xZ0 aZ0 bZ0=some r):Ok Tryz.prog 72 [.i xZ0,.i aZ0,.i bZ0] ((fun r=>.b r) r):=by
 refine ok_of_body hmix m72 rfl ?_
 unfold M_bd at h
 simp only [ZC,A72,V72,body_eq]
 obtain ⟨cZ1,h⟩ | ⟨cZ1,h⟩:=cond_s h
 · cases h
   exact ZL cZ1 V72.eq_1
 · cases h
   exact ZL cZ1 V72.eq_1
theorem w_cp (bZ0:Int) {r:Bool} (h:M_cp bZ0=some r):Ok Tryz.prog 136 [.sc (.int .u8 bZ0)] ((fun r=>.b r) r):=by
 refine ok_of_body hmix m136 rfl ?_
 unfold M_cp at h
 simp only [ZC,A136,V136,body_eq]
 obtain ⟨cZ1,h⟩ | ⟨cZ1,h⟩:=cond_s h
 · obtain ⟨cZ2,h⟩ | ⟨cZ2,h⟩:=cond_s h
   · cases h
     exact ZL (ZA cZ1 cZ2) V136.eq_1
   · obtain ⟨cZ3,h⟩ | ⟨cZ3,h⟩:=cond_s h
     · cases h
       exact ZL (ZA cZ1 (ZA cZ2 cZ3)) V136.eq_1
     · cases h
       exact ZL (ZA cZ1 (ZA cZ2 cZ3)) V136.eq_1
 · obtain ⟨cZ4,h⟩ | ⟨cZ4,h⟩:=cond_s h
   · cases h
     exact ZL (ZA cZ1 cZ4) V136.eq_1
   · cases h
     exact ZL (ZA cZ1 cZ4) V136.eq_1
def S_z (sZ0:ByteArray) (v:Int):St:=⟨[(0,.z sZ0),(3,.i v)],[]⟩
def SX_z (v:Unit):St:=⟨[],[]⟩
theorem w_z (sZ0:ByteArray) (sZ7:Int) (o:Int ⊕ (Unit ⊕ Bool)) (h:M_z sZ0 sZ7=some o):AWP (OkS Tryz.prog) A100L2 (qL [0,3] [] (S_z sZ0) (qS (qX 0 [] [] (SX_z)) (qR V100 (fun r=>.b r))) o) (S_z sZ0 sZ7):=by
 unfold M_z at h
 simp only [ZC,S_z,A100L2]
 obtain ⟨cZ8,h⟩ | ⟨cZ8,h⟩:=cond_s h
 · obtain ⟨yZ9,hyZ9,h⟩:=bind_s h
   obtain ⟨hyZ9a,hyZ9b⟩:=getz_s hyZ9
   obtain ⟨rZ10,hrZ10,h⟩:=bind_s h
   refine ZF (ZA cZ8 (ZA hyZ9a hyZ9b)) ?_
   refine ZS (ZA cZ8 (ZA hyZ9a hyZ9b)) (w_cp _ hrZ10) ?_
   refine ZG ?_
   obtain ⟨cZ11,h⟩ | ⟨cZ11,h⟩:=cond_s h
   · cases h
     exact ZL (ZA cZ8 (ZA hyZ9a (ZA hyZ9b cZ11))) V100.eq_1
   · cases h
     exact ZL (ZA cZ8 (ZA hyZ9a (ZA hyZ9b cZ11))) (ZA S_z.eq_1 SX_z.eq_1)
 · cases h
   exact ZL cZ8 (ZA S_z.eq_1 SX_z.eq_1)
theorem w_cq (sZ0:ByteArray) {r:Bool} (h:M_cq sZ0=some r):Ok Tryz.prog 100 [.z sZ0] ((fun r=>.b r) r):=by
 refine ok_of_body hmix m100 rfl ?_
 unfold M_cq at h
 simp only [ZC,A100,V100,body_eq]
 obtain ⟨oZ5,hoZ5,h⟩:=bind_s h
 try refine ZF trivial ?_
 refine join_rule0 (sh:=(fun v=>⟨[(0,.z sZ0),(17,.b v)],[]⟩)) (s:=oZ5) ?_ ?_
 · replace h:=hoZ5
   obtain ⟨rZ1,hrZ1,h⟩:=bind_s h
   refine ZF trivial ?_
   refine ZS trivial (w_bd _ _ _ hrZ1) ?_
   refine ZG ?_
   obtain ⟨cZ2,h⟩ | ⟨cZ2,h⟩:=cond_s h
   · cases h
     exact ZL cZ2 trivial
   · obtain ⟨yZ3,hyZ3,h⟩:=bind_s h
     obtain ⟨hyZ3a,hyZ3b⟩:=getz_s hyZ3
     obtain ⟨cZ4,h⟩ | ⟨cZ4,h⟩:=cond_s h
     · cases h
       exact ZL (ZA cZ2 (ZA hyZ3a (ZA hyZ3b cZ4))) trivial
     · cases h
       exact ZL (ZA cZ2 (ZA hyZ3a (ZA hyZ3b cZ4))) trivial
 · simp only [ZC,A100R1]
   obtain ⟨cZ6,h⟩ | ⟨cZ6,h⟩:=cond_s h
   · cases h
     exact ZL cZ6 V100.eq_1
   · obtain ⟨oZ12,hoZ12,h⟩:=bind_s h
     try refine ZF cZ6 ?_
     refine join_rule (o:=oZ12) (blk_rule sideR (loop_rule (w_z sZ0) hoZ12 ?_)) (fun vZ13 hv=>?_) (fun xZ14 hv e τ hne hq=>?_)
     · exact ZK (ZA S_z.eq_1 SX_z.eq_1)
     · subst hv
       simp only [] at h
       simp only [ZC,SX_z,A100R3]
       cases h
       exact ZL cZ6 V100.eq_1
     · subst hv
       simp only [] at h
       obtain ⟨rfl,qZ15⟩:=hq
       cases h
       exact qZ15
def S_aa (listZ0:List ByteArray) (nameZ0:ByteArray) (v:Int):St:=⟨[(0,.lst .o 1 (listZ0.map AV.z)),(1,.z nameZ0),(5,.i v)],[]⟩
def SX_aa (v:Unit):St:=⟨[],[]⟩
theorem w_aa (listZ0:List ByteArray) (nameZ0:ByteArray) (sZ1:Int) (o:Int ⊕ (Unit ⊕ Int)) (h:M_aa listZ0 nameZ0 sZ1=some o):AWP (OkS Tryz.prog) A101L1 (qL [0,1,5] [] (S_aa listZ0 nameZ0) (qS (qX 0 [] [] (SX_aa)) (qR V101 (fun r=>.i r))) o) (S_aa listZ0 nameZ0 sZ1):=by
 unfold M_aa at h
 simp only [ZC,S_aa,A101L1]
 obtain ⟨cZ2,h⟩ | ⟨cZ2,h⟩:=cond_s h
 · obtain ⟨yZ3,hyZ3,h⟩:=bind_s h
   obtain ⟨hyZ3a,hyZ3b⟩:=geti_s hyZ3
   obtain ⟨cZ4,h⟩ | ⟨cZ4,h⟩:=cond_s h
   · cases h
     exact ZL (ZA cZ2 (ZA hyZ3a (ZA hyZ3b cZ4))) V101.eq_1
   · cases h
     exact ZL (ZA cZ2 (ZA hyZ3a (ZA hyZ3b cZ4))) (ZA S_aa.eq_1 SX_aa.eq_1)
 · cases h
   exact ZL cZ2 (ZA S_aa.eq_1 SX_aa.eq_1)
theorem w_cr (listZ0:List ByteArray) (nameZ0:ByteArray) {r:Int} (h:M_cr listZ0 nameZ0=some r):Ok Tryz.prog 101 [.lst .o 1 (listZ0.map AV.z),.z nameZ0] ((fun r=>.i r) r):=by
 refine ok_of_body hmix m101 rfl ?_
 unfold M_cr at h
 simp only [ZC,A101,V101,body_eq]
 obtain ⟨oZ5,hoZ5,h⟩:=bind_s h
 try refine ZF trivial ?_
 refine join_rule (o:=oZ5) (blk_rule sideR (loop_rule (w_aa listZ0 nameZ0) hoZ5 ?_)) (fun vZ6 hv=>?_) (fun xZ7 hv e τ hne hq=>?_)
 · exact ZK (ZA S_aa.eq_1 SX_aa.eq_1)
 · subst hv
   simp only [] at h
   simp only [ZC,SX_aa,A101R2]
   cases h
   exact ZL trivial V101.eq_1
 · subst hv
   simp only [] at h
   obtain ⟨rfl,qZ8⟩:=hq
   cases h
   exact qZ8
theorem w_cs (fZ0:TFiber) (nodesZ0:Int) {r:Bool} (h:M_cs fZ0 nodesZ0=some r):Ok Tryz.prog 102 [.agg [.i fZ0.A,.i fZ0.B,.i fZ0.Length,.i fZ0.Risk],.i nodesZ0] ((fun r=>.b r) r):=by
 refine ok_of_body hmix m102 rfl ?_
 unfold M_cs at h
 simp only [ZC,A102,V102,body_eq]
 obtain ⟨rZ1,hrZ1,h⟩:=bind_s h
 refine ZF trivial ?_
 refine ZS trivial (w_bd _ _ _ hrZ1) ?_
 refine ZG ?_
 obtain ⟨cZ2,h⟩ | ⟨cZ2,h⟩:=cond_s h
 · obtain ⟨rZ3,hrZ3,h⟩:=bind_s h
   refine ZF cZ2 ?_
   refine ZS cZ2 (w_bd _ _ _ hrZ3) ?_
   refine ZG ?_
   obtain ⟨cZ4,h⟩ | ⟨cZ4,h⟩:=cond_s h
   · obtain ⟨rZ5,hrZ5,h⟩:=bind_s h
     refine ZF (ZA cZ2 cZ4) ?_
     refine ZS (ZA cZ2 cZ4) (w_bd _ _ _ hrZ5) ?_
     refine ZG ?_
     obtain ⟨cZ6,h⟩ | ⟨cZ6,h⟩:=cond_s h
     · obtain ⟨rZ7,hrZ7,h⟩:=bind_s h
       refine ZF (ZA cZ2 (ZA cZ4 cZ6)) ?_
       refine ZS (ZA cZ2 (ZA cZ4 cZ6)) (w_bd _ _ _ hrZ7) ?_
       refine ZG ?_
       cases h
       exact ZL (ZA cZ2 (ZA cZ4 cZ6)) V102.eq_1
     · cases h
       exact ZL (ZA cZ2 (ZA cZ4 cZ6)) V102.eq_1
   · cases h
     exact ZL (ZA cZ2 cZ4) V102.eq_1
 · cases h
   exact ZL cZ2 V102.eq_1
theorem w_ct (fZ0:TFiber) (gZ0:TFiber) {r:Int} (h:M_ct fZ0 gZ0=some r):Ok Tryz.prog 103 [.agg [.i fZ0.A,.i fZ0.B,.i fZ0.Length,.i fZ0.Risk],.agg [.i gZ0.A,.i gZ0.B,.i gZ0.Length,.i gZ0.Risk]] ((fun r=>.i r) r):=by
 refine ok_of_body hmix m103 rfl ?_
 unfold M_ct at h
 simp only [ZC,A103,V103,body_eq]
 obtain ⟨cZ1,h⟩ | ⟨cZ1,h⟩:=cond_s h
 · cases h
   exact ZL cZ1 V103.eq_1
 · obtain ⟨cZ2,h⟩ | ⟨cZ2,h⟩:=cond_s h
   · cases h
     exact ZL (ZA cZ1 cZ2) V103.eq_1
   · obtain ⟨cZ3,h⟩ | ⟨cZ3,h⟩:=cond_s h
     · cases h
       exact ZL (ZA cZ1 (ZA cZ2 cZ3)) V103.eq_1
     · cases h
       exact ZL (ZA cZ1 (ZA cZ2 cZ3)) V103.eq_1
def S_ab (nZ0:TNetwork) (v:Int):St:=⟨[(1,.pt 1 0 0),(3,.i v)],[(1,.var (.agg [.lst .o 1 (nZ0.Nodes.map AV.z),.lst .o 4 (nZ0.Fibers.map (e_TFiber .o))]))]⟩
def SX_ab (nZ0:TNetwork) (v:Unit):St:=⟨[(1,.pt 1 0 0)],[(1,.var (.agg [.lst .o 1 (nZ0.Nodes.map AV.z),.lst .o 4 (nZ0.Fibers.map (e_TFiber .o))]))]⟩
theorem w_ab (nZ0:TNetwork) (sZ5:Int) (o:Int ⊕ (Unit ⊕ Bool)) (h:M_ab nZ0 sZ5=some o):AWP (OkS Tryz.prog) A59L3 (qL [1,3] [1] (S_ab nZ0) (qS (qX 0 [1] [1] (SX_ab nZ0)) (qR V59 (fun r=>.b r))) o) (S_ab nZ0 sZ5):=by
 unfold M_ab at h
 simp only [ZC,S_ab,A59L3]
 obtain ⟨cZ6,h⟩ | ⟨cZ6,h⟩:=cond_s h
 · obtain ⟨oZ11,hoZ11,h⟩:=bind_s h
   try refine ZF cZ6 ?_
   refine join_rule0 (sh:=(fun v=>⟨[(1,.pt 1 0 0),(3,.i sZ5),(41,.b v)],[(1,.var (.agg [.lst .o 1 (nZ0.Nodes.map AV.z),.lst .o 4 (nZ0.Fibers.map (e_TFiber .o))]))]⟩)) (s:=oZ11) ?_ ?_
   · replace h:=hoZ11
     obtain ⟨yZ7,hyZ7,h⟩:=bind_s h
     obtain ⟨hyZ7a,hyZ7b⟩:=geti_s hyZ7
     obtain ⟨rZ8,hrZ8,h⟩:=bind_s h
     refine ZF (ZA cZ6 (ZA hyZ7a hyZ7b)) ?_
     refine ZS (ZA cZ6 (ZA hyZ7a hyZ7b)) (w_cq _ hrZ8) ?_
     refine ZG ?_
     obtain ⟨cZ9,h⟩ | ⟨cZ9,h⟩:=cond_s h
     · cases h
       exact ZL (ZA cZ6 (ZA hyZ7a (ZA hyZ7b cZ9))) trivial
     · obtain ⟨rZ10,hrZ10,h⟩:=bind_s h
       refine ZF (ZA cZ6 (ZA hyZ7a (ZA hyZ7b cZ9))) ?_
       refine ZS (ZA cZ6 (ZA hyZ7a (ZA hyZ7b cZ9))) (w_cr _ _ hrZ10) ?_
       refine ZG ?_
       cases h
       exact ZL (ZA cZ6 (ZA hyZ7a (ZA hyZ7b cZ9))) trivial
   · simp only [ZC,A59R2]
     obtain ⟨cZ12,h⟩ | ⟨cZ12,h⟩:=cond_s h
     · cases h
       exact ZL (ZA cZ6 cZ12) V59.eq_1
     · cases h
       exact ZL (ZA cZ6 cZ12) (ZA S_ab.eq_1 SX_ab.eq_1)
 · cases h
   exact ZL cZ6 (ZA S_ab.eq_1 SX_ab.eq_1)
def S_ac (nZ0:TNetwork) (v:Int):St:=⟨[(1,.pt 1 0 0),(4,.i v)],[(1,.var (.agg [.lst .o 1 (nZ0.Nodes.map AV.z),.lst .o 4 (nZ0.Fibers.map (e_TFiber .o))]))]⟩
def SX_ac (v:Unit):St:=⟨[],[]⟩
theorem w_ac (nZ0:TNetwork) (sZ16:Int) (o:Int ⊕ (Unit ⊕ Bool)) (h:M_ac nZ0 sZ16=some o):AWP (OkS Tryz.prog) A59L6 (qL [1,4] [1] (S_ac nZ0) (qS (qX 2 [] [] (SX_ac)) (qR V59 (fun r=>.b r))) o) (S_ac nZ0 sZ16):=by
 unfold M_ac at h
 simp only [ZC,S_ac,A59L6]
 obtain ⟨cZ17,h⟩ | ⟨cZ17,h⟩:=cond_s h
 · obtain ⟨oZ24,hoZ24,h⟩:=bind_s h
   try refine ZF cZ17 ?_
   refine join_rule0 (sh:=(fun v=>⟨[(1,.pt 1 0 0),(4,.i sZ16),(77,.b v)],[(1,.var (.agg [.lst .o 1 (nZ0.Nodes.map AV.z),.lst .o 4 (nZ0.Fibers.map (e_TFiber .o))]))]⟩)) (s:=oZ24) ?_ ?_
   · replace h:=hoZ24
     obtain ⟨yZ18,hyZ18,h⟩:=bind_s h
     obtain ⟨hyZ18a,hyZ18b⟩:=geti_s hyZ18
     obtain ⟨rZ19,hrZ19,h⟩:=bind_s h
     refine ZF (ZA cZ17 (ZA hyZ18a hyZ18b)) ?_
     refine ZS (ZA cZ17 (ZA hyZ18a hyZ18b)) (w_cs _ _ hrZ19) ?_
     refine ZG ?_
     obtain ⟨cZ20,h⟩ | ⟨cZ20,h⟩:=cond_s h
     · cases h
       exact ZL (ZA cZ17 (ZA hyZ18a (ZA hyZ18b cZ20))) trivial
     · obtain ⟨cZ21,h⟩ | ⟨cZ21,h⟩:=cond_s h
       · obtain ⟨yZ22,hyZ22,h⟩:=bind_s h
         obtain ⟨hyZ22a,hyZ22b⟩:=geti_s hyZ22
         obtain ⟨rZ23,hrZ23,h⟩:=bind_s h
         refine ZF (ZA cZ17 (ZA hyZ18a (ZA hyZ18b (ZA cZ20 (ZA cZ21 (ZA hyZ22a hyZ22b)))))) ?_
         refine ZS (ZA cZ17 (ZA hyZ18a (ZA hyZ18b (ZA cZ20 (ZA cZ21 (ZA hyZ22a hyZ22b)))))) (w_ct _ _ hrZ23) ?_
         refine ZG ?_
         cases h
         exact ZL (ZA cZ17 (ZA hyZ18a (ZA hyZ18b (ZA cZ20 (ZA cZ21 (ZA hyZ22a hyZ22b)))))) trivial
       · cases h
         exact ZL (ZA cZ17 (ZA hyZ18a (ZA hyZ18b (ZA cZ20 cZ21)))) trivial
   · simp only [ZC,A59R5]
     obtain ⟨cZ25,h⟩ | ⟨cZ25,h⟩:=cond_s h
     · cases h
       exact ZL (ZA cZ17 cZ25) V59.eq_1
     · cases h
       exact ZL (ZA cZ17 cZ25) (ZA S_ac.eq_1 SX_ac.eq_1)
 · cases h
   exact ZL cZ17 (ZA S_ac.eq_1 SX_ac.eq_1)
theorem w_cu (nZ0:TNetwork) {r:Bool} (h:M_cu nZ0=some r):Ok Tryz.prog 59 [.agg [.lst .o 1 (nZ0.Nodes.map AV.z),.lst .o 4 (nZ0.Fibers.map (e_TFiber .o))]] ((fun r=>.b r) r):=by
 refine ok_of_body hmix m59 rfl ?_
 unfold M_cu at h
 simp only [ZC,A59,V59,body_eq]
 obtain ⟨oZ3,hoZ3,h⟩:=bind_s h
 try refine ZF trivial ?_
 refine join_rule0 (sh:=(fun v=>⟨[(1,.pt 1 0 0),(15,.b v)],[(1,.var (.agg [.lst .o 1 (nZ0.Nodes.map AV.z),.lst .o 4 (nZ0.Fibers.map (e_TFiber .o))]))]⟩)) (s:=oZ3) ?_ ?_
 · replace h:=hoZ3
   obtain ⟨rZ1,hrZ1,h⟩:=bind_s h
   refine ZF trivial ?_
   refine ZS trivial (w_bd _ _ _ hrZ1) ?_
   refine ZG ?_
   obtain ⟨cZ2,h⟩ | ⟨cZ2,h⟩:=cond_s h
   · cases h
     exact ZL cZ2 trivial
   · cases h
     exact ZL cZ2 trivial
 · simp only [ZC,A59R1]
   obtain ⟨cZ4,h⟩ | ⟨cZ4,h⟩:=cond_s h
   · cases h
     exact ZL cZ4 V59.eq_1
   · obtain ⟨oZ13,hoZ13,h⟩:=bind_s h
     try refine ZF cZ4 ?_
     refine join_rule (o:=oZ13) (blk_rule sideR (loop_rule (w_ab nZ0) hoZ13 ?_)) (fun vZ14 hv=>?_) (fun xZ15 hv e τ hne hq=>?_)
     · exact ZK (ZA S_ab.eq_1 SX_ab.eq_1)
     · subst hv
       simp only [] at h
       simp only [ZC,SX_ab,A59R4]
       obtain ⟨oZ26,hoZ26,h⟩:=bind_s h
       try refine ZF cZ4 ?_
       refine join_rule (o:=oZ26) (blk_rule sideR (loop_rule (w_ac nZ0) hoZ26 ?_)) (fun vZ27 hv=>?_) (fun xZ28 hv e τ hne hq=>?_)
       · exact ZK (ZA S_ac.eq_1 SX_ac.eq_1)
       · subst hv
         simp only [] at h
         simp only [ZC,SX_ac,A59R7]
         cases h
         exact ZL cZ4 V59.eq_1
       · subst hv
         simp only [] at h
         obtain ⟨rfl,qZ29⟩:=hq
         cases h
         exact qZ29
     · subst hv
       simp only [] at h
       obtain ⟨rfl,qZ30⟩:=hq
       cases h
       exact qZ30
theorem w_bu (nZ0:TNetwork) (fiberZ0:Int) (nodeZ0:Int) {r:Int} (h:M_bu nZ0 fiberZ0 nodeZ0=some r):Ok Tryz.prog 123 [.agg [.lst .o 1 (nZ0.Nodes.map AV.z),.lst .o 4 (nZ0.Fibers.map (e_TFiber .o))],.i fiberZ0,.i nodeZ0] ((fun r=>.i r) r):=by
 refine ok_of_body hmix m123 rfl ?_
 unfold M_bu at h
 simp only [ZC,A123,V123,body_eq]
 obtain ⟨yZ1,hyZ1,h⟩:=bind_s h
 obtain ⟨hyZ1a,hyZ1b⟩:=geti_s hyZ1
 obtain ⟨cZ2,h⟩ | ⟨cZ2,h⟩:=cond_s h
 · cases h
   exact ZL (ZA hyZ1a (ZA hyZ1b cZ2)) V123.eq_1
 · obtain ⟨cZ3,h⟩ | ⟨cZ3,h⟩:=cond_s h
   · cases h
     exact ZL (ZA hyZ1a (ZA hyZ1b (ZA cZ2 cZ3))) V123.eq_1
   · cases h
     exact ZL (ZA hyZ1a (ZA hyZ1b (ZA cZ2 cZ3))) V123.eq_1
def S_ad (lZ0:List Int) (nZ0:Int) (v:Int):St:=⟨[(0,.lst .o 1 (lZ0.map AV.i)),(1,.i nZ0),(5,.i v)],[]⟩
def SX_ad (v:Unit):St:=⟨[],[]⟩
theorem w_ad (lZ0:List Int) (nZ0:Int) (sZ1:Int) (o:Int ⊕ (Unit ⊕ Bool)) (h:M_ad lZ0 nZ0 sZ1=some o):AWP (OkS Tryz.prog) A83L1 (qL [0,1,5] [] (S_ad lZ0 nZ0) (qS (qX 0 [] [] (SX_ad)) (qR V83 (fun r=>.b r))) o) (S_ad lZ0 nZ0 sZ1):=by
 unfold M_ad at h
 simp only [ZC,S_ad,A83L1]
 obtain ⟨cZ2,h⟩ | ⟨cZ2,h⟩:=cond_s h
 · obtain ⟨yZ3,hyZ3,h⟩:=bind_s h
   obtain ⟨hyZ3a,hyZ3b⟩:=geti_s hyZ3
   obtain ⟨cZ4,h⟩ | ⟨cZ4,h⟩:=cond_s h
   · cases h
     exact ZL (ZA cZ2 (ZA hyZ3a (ZA hyZ3b cZ4))) V83.eq_1
   · cases h
     exact ZL (ZA cZ2 (ZA hyZ3a (ZA hyZ3b cZ4))) (ZA S_ad.eq_1 SX_ad.eq_1)
 · cases h
   exact ZL cZ2 (ZA S_ad.eq_1 SX_ad.eq_1)
theorem w_ae (lZ0:List Int) (nZ0:Int) {r:Bool} (h:M_ae lZ0 nZ0=some r):Ok Tryz.prog 83 [.lst .o 1 (lZ0.map AV.i),.i nZ0] ((fun r=>.b r) r):=by
 refine ok_of_body hmix m83 rfl ?_
 unfold M_ae at h
 simp only [ZC,A83,V83,body_eq]
 obtain ⟨oZ5,hoZ5,h⟩:=bind_s h
 try refine ZF trivial ?_
 refine join_rule (o:=oZ5) (blk_rule sideR (loop_rule (w_ad lZ0 nZ0) hoZ5 ?_)) (fun vZ6 hv=>?_) (fun xZ7 hv e τ hne hq=>?_)
 · exact ZK (ZA S_ad.eq_1 SX_ad.eq_1)
 · subst hv
   simp only [] at h
   simp only [ZC,SX_ad,A83R2]
   cases h
   exact ZL trivial V83.eq_1
 · subst hv
   simp only [] at h
   obtain ⟨rfl,qZ8⟩:=hq
   cases h
   exact qZ8
theorem w_bo (lZ0:List Int) {r:List Int} (h:M_bo lZ0=some r):Ok Tryz.prog 54 [.lst .o 1 (lZ0.map AV.i)] ((fun r=>.lst .u 1 (r.map AV.i)) r):=by
 refine ok_of_body hmix m54 rfl ?_
 unfold M_bo at h
 simp only [ZC,A54,V54,body_eq]
 obtain ⟨uZ1,huZ1,h⟩:=bind_s h
 have huZ1g:=grd_s huZ1
 cases h
 exact ZL huZ1g V54.eq_1
def S_af (ringZ0:List Int) (v:Int×List Int):St:=⟨[(0,.lst .o 1 (ringZ0.map AV.i)),(3,.sl 3 0 v.2.length),(4,.i v.1)],[(3,.arr 1 (v.2.map AV.i))]⟩
def SX_af (v:List Int):St:=⟨[(3,.sl 3 0 v.length)],[(3,.arr 1 (v.map AV.i))]⟩
theorem w_af (ringZ0:List Int) (sZ1:Int×List Int) (o:(Int×List Int) ⊕ (List Int)) (h:M_af ringZ0 sZ1=some o):AWP (OkS Tryz.prog) A108L1 (qL [0,3,4] [3] (S_af ringZ0) (qX 0 [3] [3] (SX_af)) o) (S_af ringZ0 sZ1):=by
 unfold M_af at h
 simp only [ZC,S_af,A108L1]
 obtain ⟨cZ2,h⟩ | ⟨cZ2,h⟩:=cond_s h
 · obtain ⟨yZ3,hyZ3,h⟩:=bind_s h
   obtain ⟨hyZ3a,hyZ3b⟩:=geti_s hyZ3
   obtain ⟨lZ4,hlZ4,h⟩:=bnd_s h
   have eZ5:Row.arr 1 [(.i yZ3:AV)]=Row.arr 1 (lZ4.map AV.i):=by rw [← hlZ4]; rfl
   have jjZ6:lZ4.length=1:=by rw [← hlZ4]; rfl
   obtain ⟨uZ7,huZ7,h⟩:=bind_s h
   have huZ7g:=grd_s huZ7
   obtain ⟨lZ8,hlZ8,h⟩:=bnd_s h
   have eZ9:sZ1.2.map AV.i++lZ4.map AV.i=lZ8.map AV.i:=by rw [← hlZ8,List.map_append]
   have eZ10:sZ1.2.length+1=lZ8.length:=by simp [← hlZ4,← hlZ8] <;> omega
   rw [eZ10] at huZ7g
   cases h
   exact ZL (ZA cZ2 (ZA hyZ3a (ZA hyZ3b (ZA eZ5 (ZA jjZ6 (ZA huZ7g (ZA eZ9 eZ10))))))) (ZA S_af.eq_1 (ZA SX_af.eq_1 (ZA hlZ4.symm (ZA hlZ8.symm jjZ6))))
 · cases h
   exact ZL cZ2 (ZA S_af.eq_1 SX_af.eq_1)
theorem w_cv (ringZ0:List Int) {r:List Int} (h:M_cv ringZ0=some r):Ok Tryz.prog 108 [.lst .o 1 (ringZ0.map AV.i)] ((fun r=>.lst .u 1 (r.map AV.i)) r):=by
 refine ok_of_body hmix m108 rfl ?_
 unfold M_cv at h
 simp only [ZC,A108,V108,body_eq]
 obtain ⟨oZ11,hoZ11,h⟩:=bind_s h
 try refine ZF trivial ?_
 refine join_rule0 (blk_rule0 (loop_rule (w_af ringZ0) hoZ11 ?_)) ?_
 · exact ZK (ZA S_af.eq_1 SX_af.eq_1)
 · simp only [ZC,SX_af,A108R2]
   cases h
   exact ZL trivial V108.eq_1
def S_ag (aZ0:List Int) (bZ0:List Int) (v:Int):St:=⟨[(0,.lst .o 1 (aZ0.map AV.i)),(1,.lst .o 1 (bZ0.map AV.i)),(5,.i v)],[]⟩
def SX_ag (v:Unit):St:=⟨[],[]⟩
theorem w_ag (aZ0:List Int) (bZ0:List Int) (sZ2:Int) (o:Int ⊕ (Unit ⊕ Bool)) (h:M_ag aZ0 bZ0 sZ2=some o):AWP (OkS Tryz.prog) A142L1 (qL [0,1,5] [] (S_ag aZ0 bZ0) (qS (qX 0 [] [] (SX_ag)) (qR V142 (fun r=>.b r))) o) (S_ag aZ0 bZ0 sZ2):=by
 unfold M_ag at h
 simp only [ZC,S_ag,A142L1]
 obtain ⟨cZ3,h⟩ | ⟨cZ3,h⟩:=cond_s h
 · obtain ⟨yZ4,hyZ4,h⟩:=bind_s h
   obtain ⟨hyZ4a,hyZ4b⟩:=geti_s hyZ4
   obtain ⟨yZ5,hyZ5,h⟩:=bind_s h
   obtain ⟨hyZ5a,hyZ5b⟩:=geti_s hyZ5
   obtain ⟨cZ6,h⟩ | ⟨cZ6,h⟩:=cond_s h
   · cases h
     exact ZL (ZA cZ3 (ZA hyZ4a (ZA hyZ4b (ZA hyZ5a (ZA hyZ5b cZ6))))) V142.eq_1
   · cases h
     exact ZL (ZA cZ3 (ZA hyZ4a (ZA hyZ4b (ZA hyZ5a (ZA hyZ5b cZ6))))) (ZA S_ag.eq_1 SX_ag.eq_1)
 · cases h
   exact ZL cZ3 (ZA S_ag.eq_1 SX_ag.eq_1)
theorem w_bn (aZ0:List Int) (bZ0:List Int) {r:Bool} (h:M_bn aZ0 bZ0=some r):Ok Tryz.prog 142 [.lst .o 1 (aZ0.map AV.i),.lst .o 1 (bZ0.map AV.i)] ((fun r=>.b r) r):=by
 refine ok_of_body hmix m142 rfl ?_
 unfold M_bn at h
 simp only [ZC,A142,V142,body_eq]
 obtain ⟨cZ1,h⟩ | ⟨cZ1,h⟩:=cond_s h
 · cases h
   exact ZL cZ1 V142.eq_1
 · obtain ⟨oZ7,hoZ7,h⟩:=bind_s h
   try refine ZF cZ1 ?_
   refine join_rule (o:=oZ7) (blk_rule sideR (loop_rule (w_ag aZ0 bZ0) hoZ7 ?_)) (fun vZ8 hv=>?_) (fun xZ9 hv e τ hne hq=>?_)
   · exact ZK (ZA S_ag.eq_1 SX_ag.eq_1)
   · subst hv
     simp only [] at h
     simp only [ZC,SX_ag,A142R2]
     cases h
     exact ZL cZ1 V142.eq_1
   · subst hv
     simp only [] at h
     obtain ⟨rfl,qZ10⟩:=hq
     cases h
     exact qZ10
def S_p (aaZ0:List (List Int)) (abZ0:List Int) (v:Int):St:=⟨[(0,.sl 1000000000 0 aaZ0.length),(1,.lst .m 1 (abZ0.map AV.i)),(5,.i v)],[(1000000000,.arr 1 (aaZ0.map (e_Li .m)))]⟩
def SX_p (aaZ0:List (List Int)) (abZ0:List Int) (v:Int):St:=⟨[(0,.sl 1000000000 0 aaZ0.length),(1,.lst .m 1 (abZ0.map AV.i)),(5,.i v)],[(1000000000,.arr 1 (aaZ0.map (e_Li .m)))]⟩
theorem w_p (aaZ0:List (List Int)) (abZ0:List Int) (sZ1:Int) (o:Int ⊕ Int) (h:M_p aaZ0 abZ0 sZ1=some o):AWP (OkS Tryz.prog) A157M3L1 (qL [0,1,5] [1000000000] (S_p aaZ0 abZ0) (qX 0 [0,1,5] [1000000000] (SX_p aaZ0 abZ0)) o) (S_p aaZ0 abZ0 sZ1):=by
 unfold M_p at h
 simp only [ZC,S_p,A157M3L1]
 obtain ⟨cZ2,h⟩ | ⟨cZ2,h⟩:=cond_s h
 · obtain ⟨kZ3,hkZ3,h⟩:=bind_s h
   obtain ⟨hkZ3a,hkZ3b⟩:=grd_s hkZ3
   obtain ⟨yZ4,hyZ4,h⟩:=bind_s h
   obtain ⟨rZ5,hrZ5,h⟩:=bind_s h
   refine ZF (ZA cZ2 (ZA hkZ3a (ZA hkZ3b hyZ4))) ?_
   refine ZS (ZA cZ2 (ZA hkZ3a (ZA hkZ3b hyZ4))) (w_bn _ _ hrZ5) ?_
   refine ZG ?_
   obtain ⟨cZ6,h⟩ | ⟨cZ6,h⟩:=cond_s h
   · cases h
     exact ZL (ZA cZ2 (ZA hkZ3a (ZA hkZ3b (ZA hyZ4 cZ6)))) (ZA S_p.eq_1 SX_p.eq_1)
   · cases h
     exact ZL (ZA cZ2 (ZA hkZ3a (ZA hkZ3b (ZA hyZ4 cZ6)))) (ZA S_p.eq_1 SX_p.eq_1)
 · cases h
   exact ZL cZ2 (ZA S_p.eq_1 SX_p.eq_1)
theorem w_cw (aaZ0:List (List Int)) (abZ0:List Int) {r:List (List Int)×List (List Int)} (h:M_cw aaZ0 abZ0=some r):OkM Tryz.prog 157 [.sl 1000000000 0 aaZ0.length,.sl 1000000001 0 abZ0.length] [(1000000000,.arr 1 (aaZ0.map (e_Li .m))),(1000000001,.arr 1 (abZ0.map AV.i))] ((fun (r:List (List Int)×List (List Int))=>.sl 4 0 r.1.length) r) ((fun (r:List (List Int)×List (List Int))=>[(4,.arr 1 (r.1.map (e_Li .m))),(1000000000,.arr 1 (r.2.map (e_Li .m)))]) r):=by
 refine okM_of_body (lr:=[4,1000000000]) hmix m157M3 rfl rfl ?_
 unfold M_cw at h
 simp only [ZC,A157M3,V157M3]
 obtain ⟨oZ7,hoZ7,h⟩:=bind_s h
 try refine ZF trivial ?_
 refine join_rule0 (blk_rule0 (loop_rule (w_p aaZ0 abZ0) hoZ7 ?_)) ?_
 · exact ZK (ZA S_p.eq_1 SX_p.eq_1)
 · simp only [ZC,SX_p,A157M3R2]
   obtain ⟨uZ8,huZ8,h⟩:=bind_s h
   obtain ⟨huZ8a,huZ8b,huZ8c,huZ8d⟩:=grd_s huZ8
   obtain ⟨lZ9,hlZ9,h⟩:=bnd_s h
   have eZ10:sub (aaZ0.map (e_Li .m)) 0 (Int.toNat oZ7)=lZ9.map (e_Li .m):=by rw [sub_mapT,hlZ9]
   obtain ⟨uZ11,huZ11,h⟩:=bind_s h
   have huZ11g:=grd_s huZ11
   obtain ⟨lZ12,hlZ12,h⟩:=bnd_s h
   have eZ13:Row.arr 1 [(.lst .m 1 (abZ0.map AV.i):AV)]=Row.arr 1 (lZ12.map (e_Li .m)):=by rw [← hlZ12]; rfl
   have jjZ14:lZ12.length=1:=by rw [← hlZ12]; rfl
   obtain ⟨uZ15,huZ15,h⟩:=bind_s h
   have huZ15g:=grd_s huZ15
   obtain ⟨lZ16,hlZ16,h⟩:=bnd_s h
   have eZ17:lZ9.map (e_Li .m)++lZ12.map (e_Li .m)=lZ16.map (e_Li .m):=by rw [← hlZ16,List.map_append]
   have eZ18:lZ9.length+1=lZ16.length:=by simp [← hlZ12,← hlZ16] <;> omega
   rw [eZ18] at huZ15g
   obtain ⟨uZ19,huZ19,h⟩:=bind_s h
   obtain ⟨huZ19a,huZ19b,huZ19c,huZ19d⟩:=grd_s huZ19
   obtain ⟨lZ20,hlZ20,h⟩:=bnd_s h
   have eZ21:sub (aaZ0.map (e_Li .m)) (Int.toNat oZ7) (aaZ0.length - (Int.toNat oZ7))=lZ20.map (e_Li .m):=by rw [sub_mapT,hlZ20]
   obtain ⟨uZ22,huZ22,h⟩:=bind_s h
   have huZ22g:=grd_s huZ22
   obtain ⟨lZ23,hlZ23,h⟩:=bnd_s h
   have eZ24:lZ16.map (e_Li .m)++lZ20.map (e_Li .m)=lZ23.map (e_Li .m):=by rw [← hlZ23,List.map_append]
   have eZ25:lZ16.length+lZ20.length=lZ23.length:=by simp [← hlZ12,← hlZ16,← hlZ23] <;> omega
   rw [eZ25] at huZ22g
   cases h
   exact ZL (ZA huZ8a (ZA huZ8b (ZA huZ8c (ZA huZ8d (ZA eZ10 (ZA huZ11g (ZA eZ13 (ZA jjZ14 (ZA huZ15g (ZA eZ17 (ZA eZ18 (ZA huZ19a (ZA huZ19b (ZA huZ19c (ZA huZ19d (ZA eZ21 (ZA huZ22g (ZA eZ24 eZ25)))))))))))))))))) (ZA V157M3.eq_1 (ZA hlZ12.symm (ZA hlZ16.symm (ZA hlZ23.symm jjZ14))))
def S_b (aaZ0:Int) (abZ0:Int) (afZ0:List Int) (agZ0:List Int) (v:Int×List ByteArray×List TFiber×List (List Int)):St:=⟨[(0,.pt 1000000000 0 0),(1,.i aaZ0),(2,.i abZ0),(3,.sl 1000000002 0 afZ0.length),(4,.sl 1000000003 0 agZ0.length),(10,.i v.1)],[(470000002,.arr 1 (v.2.2.2.map (e_Li .m))),(1000000000,.var (.agg [.lst .o 1 (v.2.1.map AV.z),.lst .o 4 (v.2.2.1.map (e_TFiber .o)),.sl 470000002 0 v.2.2.2.length])),(1000000002,.arr 1 (afZ0.map AV.i)),(1000000003,.arr 1 (agZ0.map AV.i))]⟩
def SX_b (afZ0:List Int) (agZ0:List Int) (v:List ByteArray×List TFiber×List (List Int)):St:=⟨[],[(470000002,.arr 1 (v.2.2.map (e_Li .m))),(1000000000,.var (.agg [.lst .o 1 (v.1.map AV.z),.lst .o 4 (v.2.1.map (e_TFiber .o)),.sl 470000002 0 v.2.2.length])),(1000000002,.arr 1 (afZ0.map AV.i)),(1000000003,.arr 1 (agZ0.map AV.i))]⟩
theorem w_b (aaZ0:Int) (abZ0:Int) (acZ0:List ByteArray) (adZ0:List TFiber) (aeZ0:List (List Int)) (afZ0:List Int) (agZ0:List Int) (rcZ0:Int→Int→List ByteArray→List TFiber→List (List Int)→List Int→List Int→Option (List ByteArray×List TFiber×List (List Int)×List Int×List Int)) (ihZ0:∀ (aaZ0:Int) (abZ0:Int) (acZ0:List ByteArray) (adZ0:List TFiber) (aeZ0:List (List Int)) (afZ0:List Int) (agZ0:List Int) {r:List ByteArray×List TFiber×List (List Int)×List Int×List Int},rcZ0 aaZ0 abZ0 acZ0 adZ0 aeZ0 afZ0 agZ0=some r→OkM Tryz.prog 132 [.pt 1000000000 0 0,.i aaZ0,.i abZ0,.sl 1000000002 0 afZ0.length,.sl 1000000003 0 agZ0.length] [(1000000000,.var (.agg [.lst .o 1 (acZ0.map AV.z),.lst .o 4 (adZ0.map (e_TFiber .o)),.sl 1000000001 0 aeZ0.length])),(1000000001,.arr 1 (aeZ0.map (e_Li .m))),(1000000002,.arr 1 (afZ0.map AV.i)),(1000000003,.arr 1 (agZ0.map AV.i))] ((fun (r:List ByteArray×List TFiber×List (List Int)×List Int×List Int)=>.tup []) r) ((fun (r:List ByteArray×List TFiber×List (List Int)×List Int×List Int)=>[(470000002,.arr 1 (r.2.2.1.map (e_Li .m))),(1000000000,.var (.agg [.lst .o 1 (r.1.map AV.z),.lst .o 4 (r.2.1.map (e_TFiber .o)),.sl 470000002 0 r.2.2.1.length])),(1000000002,.arr 1 (r.2.2.2.1.map AV.i)),(1000000003,.arr 1 (r.2.2.2.2.map AV.i))]) r)) (sZ1:Int×List ByteArray×List TFiber×List (List Int)) (o:(Int×List ByteArray×List TFiber×List (List Int)) ⊕ (List ByteArray×List TFiber×List (List Int))) (h:M_b aaZ0 abZ0 afZ0 agZ0 rcZ0 sZ1=some o):AWP (OkS Tryz.prog) A132M2L5 (qL [0,1,2,3,4,10] [470000002,1000000000,1000000002,1000000003] (S_b aaZ0 abZ0 afZ0 agZ0) (qX 0 [] [470000002,1000000000,1000000002,1000000003] (SX_b afZ0 agZ0)) o) (S_b aaZ0 abZ0 afZ0 agZ0 sZ1):=by
 unfold M_b at h
 simp only [ZC,S_b,A132M2L5]
 obtain ⟨oZ3,hoZ3,h⟩:=bind_s h
 try refine ZF trivial ?_
 refine join_rule0 (sh:=(fun v=>⟨[(0,.pt 1000000000 0 0),(1,.i aaZ0),(2,.i abZ0),(3,.sl 1000000002 0 afZ0.length),(4,.sl 1000000003 0 agZ0.length),(10,.i sZ1.1),(28,.b v)],[(470000002,.arr 1 (sZ1.2.2.2.map (e_Li .m))),(1000000000,.var (.agg [.lst .o 1 (sZ1.2.1.map AV.z),.lst .o 4 (sZ1.2.2.1.map (e_TFiber .o)),.sl 470000002 0 sZ1.2.2.2.length])),(1000000002,.arr 1 (afZ0.map AV.i)),(1000000003,.arr 1 (agZ0.map AV.i))]⟩)) (s:=oZ3) ?_ ?_
 · replace h:=hoZ3
   obtain ⟨cZ2,h⟩ | ⟨cZ2,h⟩:=cond_s h
   · cases h
     exact ZL cZ2 trivial
   · cases h
     exact ZL cZ2 trivial
 · simp only [ZC,A132M2R1]
   obtain ⟨cZ4,h⟩ | ⟨cZ4,h⟩:=cond_s h
   · obtain ⟨rZ5,hrZ5,h⟩:=bind_s h
     refine ZF cZ4 ?_
     refine ZS cZ4 (w_bu _ _ _ hrZ5) ?_
     refine ZG ?_
     obtain ⟨oZ8,hoZ8,h⟩:=bind_s h
     try refine ZF cZ4 ?_
     refine join_rule0 (sh:=(fun v=>⟨[(0,.pt 1000000000 0 0),(1,.i aaZ0),(2,.i abZ0),(3,.sl 1000000002 0 afZ0.length),(4,.sl 1000000003 0 agZ0.length),(10,.i sZ1.1),(11,.i rZ5),(45,.b v)],[(470000002,.arr 1 (sZ1.2.2.2.map (e_Li .m))),(1000000000,.var (.agg [.lst .o 1 (sZ1.2.1.map AV.z),.lst .o 4 (sZ1.2.2.1.map (e_TFiber .o)),.sl 470000002 0 sZ1.2.2.2.length])),(1000000002,.arr 1 (afZ0.map AV.i)),(1000000003,.arr 1 (agZ0.map AV.i))]⟩)) (s:=oZ8) ?_ ?_
     · replace h:=hoZ8
       obtain ⟨cZ6,h⟩ | ⟨cZ6,h⟩:=cond_s h
       · cases h
         exact ZL (ZA cZ4 cZ6) trivial
       · obtain ⟨rZ7,hrZ7,h⟩:=bind_s h
         refine ZF (ZA cZ4 cZ6) ?_
         refine ZS (ZA cZ4 cZ6) (w_ae _ _ hrZ7) ?_
         refine ZG ?_
         cases h
         exact ZL (ZA cZ4 cZ6) trivial
     · simp only [ZC,A132M2R2]
       obtain ⟨cZ9,h⟩ | ⟨cZ9,h⟩:=cond_s h
       · cases h
         exact ZL (ZA cZ4 cZ9) (ZA S_b.eq_1 SX_b.eq_1)
       · obtain ⟨rZ10,hrZ10,h⟩:=bind_s h
         refine ZF (ZA cZ4 cZ9) ?_
         refine ZU (ZA cZ4 cZ9) (w_bo _ hrZ10) ?_
         refine ZG ?_
         obtain ⟨lZ11,hlZ11,h⟩:=bnd_s h
         have eZ12:Row.arr 1 [(.i sZ1.1:AV)]=Row.arr 1 (lZ11.map AV.i):=by rw [← hlZ11]; rfl
         have jjZ13:lZ11.length=1:=by rw [← hlZ11]; rfl
         obtain ⟨uZ14,huZ14,h⟩:=bind_s h
         have huZ14g:=grd_s huZ14
         obtain ⟨lZ15,hlZ15,h⟩:=bnd_s h
         have eZ16:rZ10.map AV.i++lZ11.map AV.i=lZ15.map AV.i:=by rw [← hlZ15,List.map_append]
         have eZ17:rZ10.length+1=lZ15.length:=by simp [← hlZ11,← hlZ15] <;> omega
         rw [eZ17] at huZ14g
         obtain ⟨cZ18,h⟩ | ⟨cZ18,h⟩:=cond_s h
         · obtain ⟨oZ25,hoZ25,h⟩:=bind_s h
           try refine ZF (ZA cZ4 (ZA cZ9 (ZA eZ12 (ZA jjZ13 (ZA huZ14g (ZA eZ16 (ZA eZ17 cZ18))))))) ?_
           refine join_rule0 (sh:=(fun v=>⟨[(0,.pt 1000000000 0 0),(1,.i aaZ0),(2,.i abZ0),(3,.sl 1000000002 0 afZ0.length),(4,.sl 1000000003 0 agZ0.length),(10,.i sZ1.1)],[(470000002,.arr 1 (v.map (e_Li .m))),(1000000000,.var (.agg [.lst .o 1 (sZ1.2.1.map AV.z),.lst .o 4 (sZ1.2.2.1.map (e_TFiber .o)),.sl 470000002 0 v.length])),(1000000002,.arr 1 (afZ0.map AV.i)),(1000000003,.arr 1 (agZ0.map AV.i))]⟩)) (s:=oZ25) ?_ ?_
           · replace h:=hoZ25
             obtain ⟨oZ22,hoZ22,h⟩:=bind_s h
             try refine ZF (ZA cZ4 (ZA cZ9 (ZA eZ12 (ZA jjZ13 (ZA huZ14g (ZA eZ16 (ZA eZ17 cZ18))))))) ?_
             refine join_rule0 (sh:=(fun v=>⟨[(0,.pt 1000000000 0 0),(1,.i aaZ0),(2,.i abZ0),(3,.sl 1000000002 0 afZ0.length),(4,.sl 1000000003 0 agZ0.length),(10,.i sZ1.1),(12,.sl 12 0 lZ15.length),(63,.b v)],[(12,.arr 1 (lZ15.map AV.i)),(470000002,.arr 1 (sZ1.2.2.2.map (e_Li .m))),(1000000000,.var (.agg [.lst .o 1 (sZ1.2.1.map AV.z),.lst .o 4 (sZ1.2.2.1.map (e_TFiber .o)),.sl 470000002 0 sZ1.2.2.2.length])),(1000000002,.arr 1 (afZ0.map AV.i)),(1000000003,.arr 1 (agZ0.map AV.i))]⟩)) (s:=oZ22) ?_ ?_
             · replace h:=hoZ22
               obtain ⟨cZ19,h⟩ | ⟨cZ19,h⟩:=cond_s h
               · obtain ⟨rZ20,hrZ20,h⟩:=bind_s h
                 refine ZF (ZA cZ4 (ZA cZ9 (ZA eZ12 (ZA jjZ13 (ZA huZ14g (ZA eZ16 (ZA eZ17 (ZA cZ18 cZ19)))))))) ?_
                 refine ZU (ZA cZ4 (ZA cZ9 (ZA eZ12 (ZA jjZ13 (ZA huZ14g (ZA eZ16 (ZA eZ17 (ZA cZ18 cZ19)))))))) (w_cv _ hrZ20) ?_
                 refine ZG ?_
                 obtain ⟨rZ21,hrZ21,h⟩:=bind_s h
                 refine ZF (ZA cZ4 (ZA cZ9 (ZA eZ12 (ZA jjZ13 (ZA huZ14g (ZA eZ16 (ZA eZ17 (ZA cZ18 cZ19)))))))) ?_
                 refine ZS (ZA cZ4 (ZA cZ9 (ZA eZ12 (ZA jjZ13 (ZA huZ14g (ZA eZ16 (ZA eZ17 (ZA cZ18 cZ19)))))))) (w_bn _ _ hrZ21) ?_
                 refine ZG ?_
                 cases h
                 exact ZL (ZA cZ4 (ZA cZ9 (ZA eZ12 (ZA jjZ13 (ZA huZ14g (ZA eZ16 (ZA eZ17 (ZA cZ18 cZ19)))))))) (ZA hlZ11.symm (ZA hlZ15.symm jjZ13))
               · cases h
                 exact ZL (ZA cZ4 (ZA cZ9 (ZA eZ12 (ZA jjZ13 (ZA huZ14g (ZA eZ16 (ZA eZ17 (ZA cZ18 cZ19)))))))) (ZA hlZ11.symm (ZA hlZ15.symm jjZ13))
             · simp only [ZC,A132M2R3]
               obtain ⟨cZ23,h⟩ | ⟨cZ23,h⟩:=cond_s h
               · obtain ⟨rZ24,hrZ24,h⟩:=bind_s h
                 refine ZF (ZA cZ4 (ZA cZ9 (ZA eZ12 (ZA jjZ13 (ZA huZ14g (ZA eZ16 (ZA eZ17 (ZA cZ18 cZ23)))))))) ?_
                 refine ZW (ZA cZ4 (ZA cZ9 (ZA eZ12 (ZA jjZ13 (ZA huZ14g (ZA eZ16 (ZA eZ17 (ZA cZ18 cZ23)))))))) (w_cw _ _ hrZ24) (h2:=by first | exact nm_ok [4,1000000000] rfl (by decide +kernel) | exact nm_ok2 [4,1000000000] [7100004] rfl (by decide +kernel) ZQ | exact ZQ) (hk:=?_)
                 refine ZG ?_
                 cases h
                 exact ZL (ZA cZ4 (ZA cZ9 (ZA eZ12 (ZA jjZ13 (ZA huZ14g (ZA eZ16 (ZA eZ17 (ZA cZ18 cZ23)))))))) jjZ13
               · cases h
                 exact ZL (ZA cZ4 (ZA cZ9 (ZA eZ12 (ZA jjZ13 (ZA huZ14g (ZA eZ16 (ZA eZ17 (ZA cZ18 cZ23)))))))) jjZ13
           · simp only [ZC,A132M2R4]
             cases h
             exact ZL (ZA cZ4 (ZA cZ9 (ZA eZ12 (ZA jjZ13 (ZA huZ14g (ZA eZ16 (ZA eZ17 cZ18))))))) (ZA S_b.eq_1 (ZA SX_b.eq_1 jjZ13))
         · obtain ⟨rZ26,hrZ26,h⟩:=bind_s h
           refine ZF (ZA cZ4 (ZA cZ9 (ZA eZ12 (ZA jjZ13 (ZA huZ14g (ZA eZ16 (ZA eZ17 cZ18))))))) ?_
           refine ZS (ZA cZ4 (ZA cZ9 (ZA eZ12 (ZA jjZ13 (ZA huZ14g (ZA eZ16 (ZA eZ17 cZ18))))))) (w_ae _ _ hrZ26) ?_
           refine ZG ?_
           obtain ⟨cZ27,h⟩ | ⟨cZ27,h⟩:=cond_s h
           · obtain ⟨rZ28,hrZ28,h⟩:=bind_s h
             refine ZF (ZA cZ4 (ZA cZ9 (ZA eZ12 (ZA jjZ13 (ZA huZ14g (ZA eZ16 (ZA eZ17 (ZA cZ18 cZ27)))))))) ?_
             refine ZU (ZA cZ4 (ZA cZ9 (ZA eZ12 (ZA jjZ13 (ZA huZ14g (ZA eZ16 (ZA eZ17 (ZA cZ18 cZ27)))))))) (w_bo _ hrZ28) ?_
             refine ZG ?_
             obtain ⟨lZ29,hlZ29,h⟩:=bnd_s h
             have eZ30:Row.arr 1 [(.i rZ5:AV)]=Row.arr 1 (lZ29.map AV.i):=by rw [← hlZ29]; rfl
             have jjZ31:lZ29.length=1:=by rw [← hlZ29]; rfl
             obtain ⟨uZ32,huZ32,h⟩:=bind_s h
             have huZ32g:=grd_s huZ32
             obtain ⟨lZ33,hlZ33,h⟩:=bnd_s h
             have eZ34:rZ28.map AV.i++lZ29.map AV.i=lZ33.map AV.i:=by rw [← hlZ33,List.map_append]
             have eZ35:rZ28.length+1=lZ33.length:=by simp [← hlZ11,← hlZ15,← hlZ29,← hlZ33] <;> omega
             rw [eZ35] at huZ32g
             obtain ⟨rZ36,hrZ36,h⟩:=bind_s h
             refine ZF (ZA cZ4 (ZA cZ9 (ZA eZ12 (ZA jjZ13 (ZA huZ14g (ZA eZ16 (ZA eZ17 (ZA cZ18 (ZA cZ27 (ZA eZ30 (ZA jjZ31 (ZA huZ32g (ZA eZ34 eZ35))))))))))))) ?_
             refine ZW (ZA cZ4 (ZA cZ9 (ZA eZ12 (ZA jjZ13 (ZA huZ14g (ZA eZ16 (ZA eZ17 (ZA cZ18 (ZA cZ27 (ZA eZ30 (ZA jjZ31 (ZA huZ32g (ZA eZ34 eZ35))))))))))))) (ihZ0 _ _ _ _ _ _ _ hrZ36) (h2:=by first | exact nm_ok [470000002,1000000000,1000000002,1000000003] rfl (by decide +kernel) | exact nm_ok2 [470000002,1000000000,1000000002,1000000003] [478700002] rfl (by decide +kernel) ZQ | exact ZQ) (hk:=?_)
             refine ZG ?_
             cases h
             exact ZL (ZA cZ4 (ZA cZ9 (ZA eZ12 (ZA jjZ13 (ZA huZ14g (ZA eZ16 (ZA eZ17 (ZA cZ18 (ZA cZ27 (ZA eZ30 (ZA jjZ31 (ZA huZ32g (ZA eZ34 eZ35))))))))))))) (ZA S_b.eq_1 (ZA SX_b.eq_1 (ZA hlZ11.symm (ZA hlZ15.symm (ZA hlZ29.symm (ZA hlZ33.symm (ZA jjZ13 jjZ31)))))))
           · cases h
             exact ZL (ZA cZ4 (ZA cZ9 (ZA eZ12 (ZA jjZ13 (ZA huZ14g (ZA eZ16 (ZA eZ17 (ZA cZ18 cZ27)))))))) (ZA S_b.eq_1 (ZA SX_b.eq_1 (ZA hlZ11.symm (ZA hlZ15.symm jjZ13))))
   · cases h
     exact ZL cZ4 (ZA S_b.eq_1 SX_b.eq_1)
theorem wB_bv (rcZ0:Int→Int→List ByteArray→List TFiber→List (List Int)→List Int→List Int→Option (List ByteArray×List TFiber×List (List Int)×List Int×List Int)) (ihZ0:∀ (aaZ0:Int) (abZ0:Int) (acZ0:List ByteArray) (adZ0:List TFiber) (aeZ0:List (List Int)) (afZ0:List Int) (agZ0:List Int) {r:List ByteArray×List TFiber×List (List Int)×List Int×List Int},rcZ0 aaZ0 abZ0 acZ0 adZ0 aeZ0 afZ0 agZ0=some r→OkM Tryz.prog 132 [.pt 1000000000 0 0,.i aaZ0,.i abZ0,.sl 1000000002 0 afZ0.length,.sl 1000000003 0 agZ0.length] [(1000000000,.var (.agg [.lst .o 1 (acZ0.map AV.z),.lst .o 4 (adZ0.map (e_TFiber .o)),.sl 1000000001 0 aeZ0.length])),(1000000001,.arr 1 (aeZ0.map (e_Li .m))),(1000000002,.arr 1 (afZ0.map AV.i)),(1000000003,.arr 1 (agZ0.map AV.i))] ((fun (r:List ByteArray×List TFiber×List (List Int)×List Int×List Int)=>.tup []) r) ((fun (r:List ByteArray×List TFiber×List (List Int)×List Int×List Int)=>[(470000002,.arr 1 (r.2.2.1.map (e_Li .m))),(1000000000,.var (.agg [.lst .o 1 (r.1.map AV.z),.lst .o 4 (r.2.1.map (e_TFiber .o)),.sl 470000002 0 r.2.2.1.length])),(1000000002,.arr 1 (r.2.2.2.1.map AV.i)),(1000000003,.arr 1 (r.2.2.2.2.map AV.i))]) r)) (aaZ0:Int) (abZ0:Int) (acZ0:List ByteArray) (adZ0:List TFiber) (aeZ0:List (List Int)) (afZ0:List Int) (agZ0:List Int) {r:List ByteArray×List TFiber×List (List Int)×List Int×List Int} (h:M_cx rcZ0 aaZ0 abZ0 acZ0 adZ0 aeZ0 afZ0 agZ0=some r):OkM Tryz.prog 132 [.pt 1000000000 0 0,.i aaZ0,.i abZ0,.sl 1000000002 0 afZ0.length,.sl 1000000003 0 agZ0.length] [(1000000000,.var (.agg [.lst .o 1 (acZ0.map AV.z),.lst .o 4 (adZ0.map (e_TFiber .o)),.sl 1000000001 0 aeZ0.length])),(1000000001,.arr 1 (aeZ0.map (e_Li .m))),(1000000002,.arr 1 (afZ0.map AV.i)),(1000000003,.arr 1 (agZ0.map AV.i))] ((fun (r:List ByteArray×List TFiber×List (List Int)×List Int×List Int)=>.tup []) r) ((fun (r:List ByteArray×List TFiber×List (List Int)×List Int×List Int)=>[(470000002,.arr 1 (r.2.2.1.map (e_Li .m))),(1000000000,.var (.agg [.lst .o 1 (r.1.map AV.z),.lst .o 4 (r.2.1.map (e_TFiber .o)),.sl 470000002 0 r.2.2.1.length])),(1000000002,.arr 1 (r.2.2.2.1.map AV.i)),(1000000003,.arr 1 (r.2.2.2.2.map AV.i))]) r):=by
 refine okM_of_body (lr:=[470000002,1000000000,1000000002,1000000003]) hmix m132M2 rfl rfl ?_
 unfold M_cx at h
 simp only [ZC,A132M2,V132M2]
 obtain ⟨oZ37,hoZ37,h⟩:=bind_s h
 try refine ZF trivial ?_
 first | refine tail_rule0 (blk_rule0 (loop_rule (w_b aaZ0 abZ0 acZ0 adZ0 aeZ0 afZ0 agZ0 rcZ0 ihZ0) hoZ37 ?_)) (fun τ qZ38=>?_) | refine tail_blk0 (loop_rule (w_b aaZ0 abZ0 acZ0 adZ0 aeZ0 afZ0 agZ0 rcZ0 ihZ0) hoZ37 ?_) (fun τ qZ38=>?_)
 · exact ZK (ZA S_b.eq_1 SX_b.eq_1)
 · cases h
   refine finM_shp qZ38 (by decide) ?_ rfl
   exact ZK (ZA V132M2.eq_1 SX_b.eq_1)
theorem w_bv:∀ (n:Nat) (aaZ0:Int) (abZ0:Int) (acZ0:List ByteArray) (adZ0:List TFiber) (aeZ0:List (List Int)) (afZ0:List Int) (agZ0:List Int) {r:List ByteArray×List TFiber×List (List Int)×List Int×List Int} (_:M_bv n aaZ0 abZ0 acZ0 adZ0 aeZ0 afZ0 agZ0=some r),OkM Tryz.prog 132 [.pt 1000000000 0 0,.i aaZ0,.i abZ0,.sl 1000000002 0 afZ0.length,.sl 1000000003 0 agZ0.length] [(1000000000,.var (.agg [.lst .o 1 (acZ0.map AV.z),.lst .o 4 (adZ0.map (e_TFiber .o)),.sl 1000000001 0 aeZ0.length])),(1000000001,.arr 1 (aeZ0.map (e_Li .m))),(1000000002,.arr 1 (afZ0.map AV.i)),(1000000003,.arr 1 (agZ0.map AV.i))] ((fun (r:List ByteArray×List TFiber×List (List Int)×List Int×List Int)=>.tup []) r) ((fun (r:List ByteArray×List TFiber×List (List Int)×List Int×List Int)=>[(470000002,.arr 1 (r.2.2.1.map (e_Li .m))),(1000000000,.var (.agg [.lst .o 1 (r.1.map AV.z),.lst .o 4 (r.2.1.map (e_TFiber .o)),.sl 470000002 0 r.2.2.1.length])),(1000000002,.arr 1 (r.2.2.2.1.map AV.i)),(1000000003,.arr 1 (r.2.2.2.2.map AV.i))]) r)
 | 0,aaZ0,abZ0,acZ0,adZ0,aeZ0,afZ0,agZ0,_,h=>by cases h
 | n+1,aaZ0,abZ0,acZ0,adZ0,aeZ0,afZ0,agZ0,_,h=>wB_bv (M_bv n) (w_bv n) aaZ0 abZ0 acZ0 adZ0 aeZ0 afZ0 agZ0 h
def S_ay (aaZ0:TNetwork) (v:Int×List ByteArray×List TFiber×List (List Int)):St:=⟨[(1,.pt 1 0 0),(3,.pt 8 0 0),(4,.i v.1)],[(1,.var (.agg [.lst .o 1 (((aaZ0).Nodes).map AV.z),.lst .o 4 (((aaZ0).Fibers).map (e_TFiber .o))])),(8,.var (.agg [.lst .o 1 (v.2.1.map AV.z),.lst .o 4 (v.2.2.1.map (e_TFiber .o)),.sl 500000514 0 v.2.2.2.length])),(500000514,.arr 1 (v.2.2.2.map (e_Li .m)))]⟩
def SX_ay (v:List ByteArray×List TFiber×List (List Int)):St:=⟨[(3,.pt 8 0 0)],[(8,.var (.agg [.lst .o 1 (v.1.map AV.z),.lst .o 4 (v.2.1.map (e_TFiber .o)),.sl 500000514 0 v.2.2.length])),(500000514,.arr 1 (v.2.2.map (e_Li .m)))]⟩
theorem w_ay (aaZ0:TNetwork) (sZ1:Int×List ByteArray×List TFiber×List (List Int)) (o:(Int×List ByteArray×List TFiber×List (List Int)) ⊕ (List ByteArray×List TFiber×List (List Int))) (h:M_ay aaZ0 sZ1=some o):AWP (OkS Tryz.prog) A90M1L1 (qL [1,3,4] [1,8,500000514] (S_ay aaZ0) (qX 0 [3] [8,500000514] (SX_ay)) o) (S_ay aaZ0 sZ1):=by
 unfold M_ay at h
 simp only [ZC,S_ay,A90M1L1]
 obtain ⟨cZ2,h⟩ | ⟨cZ2,h⟩:=cond_s h
 · obtain ⟨lZ3,hlZ3,h⟩:=bnd_s h
   have eZ4:Row.arr 1 [(.i sZ1.1:AV)]=Row.arr 1 (lZ3.map AV.i):=by rw [← hlZ3]; rfl
   have jjZ5:lZ3.length=1:=by rw [← hlZ3]; rfl
   obtain ⟨rZ6,hrZ6,h⟩:=bind_s h
   refine ZF (ZA cZ2 (ZA eZ4 jjZ5)) ?_
   refine ZW (ZA cZ2 (ZA eZ4 jjZ5)) (w_bv N0 _ _ _ _ _ _ _ hrZ6) (h2:=by first | exact nm_ok [470000002,1000000000,1000000002,1000000003] rfl (by decide +kernel) | exact nm_ok2 [470000002,1000000000,1000000002,1000000003] [472300002] rfl (by decide +kernel) ZQ | exact ZQ) (hk:=?_)
   refine ZG ?_
   cases h
   exact ZL (ZA cZ2 (ZA eZ4 jjZ5)) (ZA S_ay.eq_1 (ZA SX_ay.eq_1 (ZA hlZ3.symm jjZ5)))
 · cases h
   exact ZL cZ2 (ZA S_ay.eq_1 SX_ay.eq_1)
theorem w_cy (aaZ0:TNetwork) {r:List (List Int)} (h:M_cy aaZ0=some r):OkM Tryz.prog 90 [.agg [.lst .o 1 (((aaZ0).Nodes).map AV.z),.lst .o 4 (((aaZ0).Fibers).map (e_TFiber .o))]] [] ((fun (r:List (List Int))=>.sl 2 0 r.length) r) ((fun (r:List (List Int))=>[(2,.arr 1 (r.map (e_Li .m)))]) r):=by
 refine okM_of_body (lr:=[2]) hmix m90M1 rfl rfl ?_
 unfold M_cy at h
 simp only [ZC,A90M1,V90M1]
 obtain ⟨oZ7,hoZ7,h⟩:=bind_s h
 try refine ZF trivial ?_
 refine join_rule0 (blk_rule0 (loop_rule (w_ay aaZ0) hoZ7 ?_)) ?_
 · exact ZK (ZA S_ay.eq_1 SX_ay.eq_1)
 · simp only [ZC,SX_ay,A90M1R2]
   cases h
   exact ZL trivial V90M1.eq_1
theorem w_cz (aaZ0:TNetwork) {r:Bool×List (List Int)} (h:M_cz aaZ0=some r):OkM Tryz.prog 42 [.agg [.lst .o 1 (((aaZ0).Nodes).map AV.z),.lst .o 4 (((aaZ0).Fibers).map (e_TFiber .o))]] [] ((fun (r:Bool×List (List Int))=>.tup [.sl 2 0 r.2.length,.b r.1]) r) ((fun (r:Bool×List (List Int))=>[(2,.arr 1 (r.2.map (e_Li .m)))]) r):=by
 refine okM_of_body (lr:=[2]) hmix m42M1 rfl rfl ?_
 unfold M_cz at h
 simp only [ZC,A42M1,V42M1]
 obtain ⟨rZ1,hrZ1,h⟩:=bind_s h
 refine ZF trivial ?_
 refine ZS trivial (w_cu _ hrZ1) ?_
 refine ZG ?_
 obtain ⟨cZ2,h⟩ | ⟨cZ2,h⟩:=cond_s h
 · cases h
   exact ZL cZ2 V42M1.eq_1
 · obtain ⟨rZ3,hrZ3,h⟩:=bind_s h
   refine ZF cZ2 ?_
   refine ZW cZ2 (w_cy _ hrZ3) (h2:=by first | exact nm_ok [2] rfl (by decide +kernel) | exact nm_ok2 [2] [1100002] rfl (by decide +kernel) ZQ | exact ZQ) (hk:=?_)
   refine ZG ?_
   obtain ⟨cZ4,h⟩ | ⟨cZ4,h⟩:=cond_s h
   · cases h
     exact ZL (ZA cZ2 cZ4) V42M1.eq_1
   · cases h
     exact ZL (ZA cZ2 cZ4) V42M1.eq_1
def S_j (nZ0:TNetwork) (ringZ0:List Int) (fromZ0:Int) (v:Int×Int×List Int):St:=⟨[(1,.lst .o 1 (ringZ0.map AV.i)),(2,.i fromZ0),(3,.pt 3 0 0),(8,.sl 8 0 v.2.2.length),(9,.i v.1),(10,.i v.2.1)],[(3,.var (.agg [.lst .o 1 (nZ0.Nodes.map AV.z),.lst .o 4 (nZ0.Fibers.map (e_TFiber .o))])),(8,.arr 1 (v.2.2.map AV.i))]⟩
def SX_j (ringZ0:List Int) (fromZ0:Int) (v:Int×List Int):St:=⟨[(1,.lst .o 1 (ringZ0.map AV.i)),(2,.i fromZ0),(8,.sl 8 0 v.2.length),(9,.i v.1)],[(8,.arr 1 (v.2.map AV.i))]⟩
theorem w_j (nZ0:TNetwork) (ringZ0:List Int) (fromZ0:Int) (sZ1:Int×Int×List Int) (o:(Int×Int×List Int) ⊕ ((Int×List Int) ⊕ (List Int×Bool))) (h:M_j nZ0 ringZ0 sZ1=some o):AWP (OkS Tryz.prog) A141L2 (qL [1,2,3,8,9,10] [3,8] (S_j nZ0 ringZ0 fromZ0) (qS (qX 0 [1,2,8,9] [8] (SX_j ringZ0 fromZ0)) (qR V141 (fun r=>.tup [.lst .u 1 (r.1.map AV.i),.b r.2]))) o) (S_j nZ0 ringZ0 fromZ0 sZ1):=by
 unfold M_j at h
 simp only [ZC,S_j,A141L2]
 obtain ⟨cZ2,h⟩ | ⟨cZ2,h⟩:=cond_s h
 · obtain ⟨oZ10,hoZ10,h⟩:=bind_s h
   try refine ZF cZ2 ?_
   refine join_rule0 (sh:=(fun v=>⟨[(1,.lst .o 1 (ringZ0.map AV.i)),(2,.i fromZ0),(3,.pt 3 0 0),(8,.sl 8 0 sZ1.2.2.length),(9,.i sZ1.1),(10,.i sZ1.2.1),(43,.b v)],[(3,.var (.agg [.lst .o 1 (nZ0.Nodes.map AV.z),.lst .o 4 (nZ0.Fibers.map (e_TFiber .o))])),(8,.arr 1 (sZ1.2.2.map AV.i))]⟩)) (s:=oZ10) ?_ ?_
   · replace h:=hoZ10
     obtain ⟨yZ3,hyZ3,h⟩:=bind_s h
     obtain ⟨hyZ3a,hyZ3b⟩:=geti_s hyZ3
     obtain ⟨rZ4,hrZ4,h⟩:=bind_s h
     refine ZF (ZA cZ2 (ZA hyZ3a hyZ3b)) ?_
     refine ZS (ZA cZ2 (ZA hyZ3a hyZ3b)) (w_bd _ _ _ hrZ4) ?_
     refine ZG ?_
     obtain ⟨cZ5,h⟩ | ⟨cZ5,h⟩:=cond_s h
     · cases h
       exact ZL (ZA cZ2 (ZA hyZ3a (ZA hyZ3b cZ5))) trivial
     · obtain ⟨lZ6,hlZ6,h⟩:=bind_s h
       obtain ⟨hlZ6a,hlZ6b,hlZ6c,hlZ6d,hlZ6e⟩:=slT_s AV.i hlZ6
       obtain ⟨rZ7,hrZ7,h⟩:=bind_s h
       refine ZF (ZA cZ2 (ZA hyZ3a (ZA hyZ3b (ZA cZ5 (ZA hlZ6a (ZA hlZ6b (ZA hlZ6c (ZA hlZ6d hlZ6e)))))))) ?_
       refine ZS (ZA cZ2 (ZA hyZ3a (ZA hyZ3b (ZA cZ5 (ZA hlZ6a (ZA hlZ6b (ZA hlZ6c (ZA hlZ6d hlZ6e)))))))) (w_ae _ _ hrZ7) ?_
       refine ZG ?_
       obtain ⟨cZ8,h⟩ | ⟨cZ8,h⟩:=cond_s h
       · cases h
         exact ZL (ZA cZ2 (ZA hyZ3a (ZA hyZ3b (ZA cZ5 (ZA hlZ6a (ZA hlZ6b (ZA hlZ6c (ZA hlZ6d (ZA hlZ6e cZ8))))))))) trivial
       · obtain ⟨rZ9,hrZ9,h⟩:=bind_s h
         refine ZF (ZA cZ2 (ZA hyZ3a (ZA hyZ3b (ZA cZ5 (ZA hlZ6a (ZA hlZ6b (ZA hlZ6c (ZA hlZ6d (ZA hlZ6e cZ8))))))))) ?_
         refine ZS (ZA cZ2 (ZA hyZ3a (ZA hyZ3b (ZA cZ5 (ZA hlZ6a (ZA hlZ6b (ZA hlZ6c (ZA hlZ6d (ZA hlZ6e cZ8))))))))) (w_ae _ _ hrZ9) ?_
         refine ZG ?_
         cases h
         exact ZL (ZA cZ2 (ZA hyZ3a (ZA hyZ3b (ZA cZ5 (ZA hlZ6a (ZA hlZ6b (ZA hlZ6c (ZA hlZ6d (ZA hlZ6e cZ8))))))))) trivial
   · simp only [ZC,A141R1]
     obtain ⟨cZ11,h⟩ | ⟨cZ11,h⟩:=cond_s h
     · cases h
       exact ZL (ZA cZ2 cZ11) V141.eq_1
     · obtain ⟨lZ12,hlZ12,h⟩:=bnd_s h
       have eZ13:Row.arr 1 [(.i sZ1.1:AV)]=Row.arr 1 (lZ12.map AV.i):=by rw [← hlZ12]; rfl
       have jjZ14:lZ12.length=1:=by rw [← hlZ12]; rfl
       obtain ⟨uZ15,huZ15,h⟩:=bind_s h
       have huZ15g:=grd_s huZ15
       obtain ⟨lZ16,hlZ16,h⟩:=bnd_s h
       have eZ17:sZ1.2.2.map AV.i++lZ12.map AV.i=lZ16.map AV.i:=by rw [← hlZ16,List.map_append]
       have eZ18:sZ1.2.2.length+1=lZ16.length:=by simp [← hlZ12,← hlZ16] <;> omega
       rw [eZ18] at huZ15g
       obtain ⟨yZ19,hyZ19,h⟩:=bind_s h
       obtain ⟨hyZ19a,hyZ19b⟩:=geti_s hyZ19
       obtain ⟨rZ20,hrZ20,h⟩:=bind_s h
       refine ZF (ZA cZ2 (ZA cZ11 (ZA eZ13 (ZA jjZ14 (ZA huZ15g (ZA eZ17 (ZA eZ18 (ZA hyZ19a hyZ19b)))))))) ?_
       refine ZS (ZA cZ2 (ZA cZ11 (ZA eZ13 (ZA jjZ14 (ZA huZ15g (ZA eZ17 (ZA eZ18 (ZA hyZ19a hyZ19b)))))))) (w_bu _ _ _ hrZ20) ?_
       refine ZG ?_
       obtain ⟨cZ21,h⟩ | ⟨cZ21,h⟩:=cond_s h
       · cases h
         exact ZL (ZA cZ2 (ZA cZ11 (ZA eZ13 (ZA jjZ14 (ZA huZ15g (ZA eZ17 (ZA eZ18 (ZA hyZ19a (ZA hyZ19b cZ21))))))))) (ZA V141.eq_1 (ZA hlZ12.symm (ZA hlZ16.symm jjZ14)))
       · cases h
         exact ZL (ZA cZ2 (ZA cZ11 (ZA eZ13 (ZA jjZ14 (ZA huZ15g (ZA eZ17 (ZA eZ18 (ZA hyZ19a (ZA hyZ19b cZ21))))))))) (ZA S_j.eq_1 (ZA SX_j.eq_1 (ZA hlZ12.symm (ZA hlZ16.symm jjZ14))))
 · cases h
   exact ZL cZ2 (ZA S_j.eq_1 SX_j.eq_1)
theorem w_da (nZ0:TNetwork) (ringZ0:List Int) (fromZ0:Int) {r:List Int×Bool} (h:M_da nZ0 ringZ0 fromZ0=some r):Ok Tryz.prog 141 [.agg [.lst .o 1 (nZ0.Nodes.map AV.z),.lst .o 4 (nZ0.Fibers.map (e_TFiber .o))],.lst .o 1 (ringZ0.map AV.i),.i fromZ0] ((fun r=>.tup [.lst .u 1 (r.1.map AV.i),.b r.2]) r):=by
 refine ok_of_body hmix m141 rfl ?_
 unfold M_da at h
 simp only [ZC,A141,V141,body_eq]
 obtain ⟨oZ22,hoZ22,h⟩:=bind_s h
 try refine ZF trivial ?_
 refine join_rule (o:=oZ22) (blk_rule sideR (loop_rule (w_j nZ0 ringZ0 fromZ0) hoZ22 ?_)) (fun vZ23 hv=>?_) (fun xZ24 hv e τ hne hq=>?_)
 · exact ZK (ZA S_j.eq_1 SX_j.eq_1)
 · subst hv
   simp only [] at h
   simp only [ZC,SX_j,A141R3]
   obtain ⟨cZ25,h⟩ | ⟨cZ25,h⟩:=cond_s h
   · cases h
     exact ZL cZ25 V141.eq_1
   · cases h
     exact ZL cZ25 V141.eq_1
 · subst hv
   simp only [] at h
   obtain ⟨rfl,qZ26⟩:=hq
   cases h
   exact qZ26
def S_ah (nZ0:TNetwork) (ringZ0:List Int) (v:Int):St:=⟨[(1,.lst .o 1 (ringZ0.map AV.i)),(2,.pt 2 0 0),(5,.i v)],[(2,.var (.agg [.lst .o 1 (nZ0.Nodes.map AV.z),.lst .o 4 (nZ0.Fibers.map (e_TFiber .o))]))]⟩
def SX_ah (v:Unit):St:=⟨[],[]⟩
theorem w_ah (nZ0:TNetwork) (ringZ0:List Int) (sZ1:Int) (o:Int ⊕ (Unit ⊕ (List Int))) (h:M_ah nZ0 ringZ0 sZ1=some o):AWP (OkS Tryz.prog) A112L1 (qL [1,2,5] [2] (S_ah nZ0 ringZ0) (qS (qX 0 [] [] (SX_ah)) (qR V112 (fun r=>.lst .u 1 (r.map AV.i)))) o) (S_ah nZ0 ringZ0 sZ1):=by
 unfold M_ah at h
 simp only [ZC,S_ah,A112L1]
 obtain ⟨cZ2,h⟩ | ⟨cZ2,h⟩:=cond_s h
 · obtain ⟨rZ3,hrZ3,h⟩:=bind_s h
   refine ZF cZ2 ?_
   refine ZU cZ2 (w_da _ _ _ hrZ3) ?_
   refine ZG ?_
   obtain ⟨cZ4,h⟩ | ⟨cZ4,h⟩:=cond_s h
   · cases h
     exact ZL (ZA cZ2 cZ4) V112.eq_1
   · cases h
     exact ZL (ZA cZ2 cZ4) (ZA S_ah.eq_1 SX_ah.eq_1)
 · cases h
   exact ZL cZ2 (ZA S_ah.eq_1 SX_ah.eq_1)
theorem w_db (nZ0:TNetwork) (ringZ0:List Int) {r:List Int} (h:M_db nZ0 ringZ0=some r):Ok Tryz.prog 112 [.agg [.lst .o 1 (nZ0.Nodes.map AV.z),.lst .o 4 (nZ0.Fibers.map (e_TFiber .o))],.lst .o 1 (ringZ0.map AV.i)] ((fun r=>.lst .u 1 (r.map AV.i)) r):=by
 refine ok_of_body hmix m112 rfl ?_
 unfold M_db at h
 simp only [ZC,A112,V112,body_eq]
 obtain ⟨oZ5,hoZ5,h⟩:=bind_s h
 try refine ZF trivial ?_
 refine join_rule (o:=oZ5) (blk_rule sideR (loop_rule (w_ah nZ0 ringZ0) hoZ5 ?_)) (fun vZ6 hv=>?_) (fun xZ7 hv e τ hne hq=>?_)
 · exact ZK (ZA S_ah.eq_1 SX_ah.eq_1)
 · subst hv
   simp only [] at h
   simp only [ZC,SX_ah,A112R2]
   cases h
   exact ZL trivial V112.eq_1
 · subst hv
   simp only [] at h
   obtain ⟨rfl,qZ8⟩:=hq
   cases h
   exact qZ8
def S_d (nZ0:TNetwork) (ringZ0:List Int) (rZ1:List Int) (v:Int×List Int×List Int):St:=⟨[(1,.lst .o 1 (ringZ0.map AV.i)),(2,.pt 2 0 0),(6,.sl 6 0 v.2.1.length),(7,.sl 7 0 v.2.2.length),(8,.sl 8 0 rZ1.length),(9,.i v.1)],[(2,.var (.agg [.lst .o 1 (nZ0.Nodes.map AV.z),.lst .o 4 (nZ0.Fibers.map (e_TFiber .o))])),(6,.arr 1 (v.2.1.map AV.i)),(7,.arr 1 (v.2.2.map AV.i)),(8,.arr 1 (rZ1.map AV.i))]⟩
def SX_d (v:List Int×List Int):St:=⟨[(6,.sl 6 0 v.1.length),(7,.sl 7 0 v.2.length)],[(6,.arr 1 (v.1.map AV.i)),(7,.arr 1 (v.2.map AV.i))]⟩
theorem w_d (nZ0:TNetwork) (ringZ0:List Int) (rZ1:List Int) (sZ2:Int×List Int×List Int) (o:(Int×List Int×List Int) ⊕ (List Int×List Int)) (h:M_d nZ0 ringZ0 rZ1 sZ2=some o):AWP (OkS Tryz.prog) A73L2 (qL [1,2,6,7,8,9] [2,6,7,8] (S_d nZ0 ringZ0 rZ1) (qX 0 [6,7] [6,7] (SX_d)) o) (S_d nZ0 ringZ0 rZ1 sZ2):=by
 unfold M_d at h
 simp only [ZC,S_d,A73L2]
 obtain ⟨cZ3,h⟩ | ⟨cZ3,h⟩:=cond_s h
 · obtain ⟨rZ4,hrZ4,h⟩:=bind_s h
   refine ZF cZ3 ?_
   refine ZS cZ3 (w_ae _ _ hrZ4) ?_
   refine ZG ?_
   obtain ⟨cZ5,h⟩ | ⟨cZ5,h⟩:=cond_s h
   · obtain ⟨lZ6,hlZ6,h⟩:=bnd_s h
     have eZ7:Row.arr 1 [(.i sZ2.1:AV)]=Row.arr 1 (lZ6.map AV.i):=by rw [← hlZ6]; rfl
     have jjZ8:lZ6.length=1:=by rw [← hlZ6]; rfl
     obtain ⟨uZ9,huZ9,h⟩:=bind_s h
     have huZ9g:=grd_s huZ9
     obtain ⟨lZ10,hlZ10,h⟩:=bnd_s h
     have eZ11:sZ2.2.1.map AV.i++lZ6.map AV.i=lZ10.map AV.i:=by rw [← hlZ10,List.map_append]
     have eZ12:sZ2.2.1.length+1=lZ10.length:=by simp [← hlZ6,← hlZ10] <;> omega
     rw [eZ12] at huZ9g
     cases h
     exact ZL (ZA cZ3 (ZA cZ5 (ZA eZ7 (ZA jjZ8 (ZA huZ9g (ZA eZ11 eZ12)))))) (ZA S_d.eq_1 (ZA SX_d.eq_1 (ZA hlZ6.symm (ZA hlZ10.symm jjZ8))))
   · obtain ⟨oZ17,hoZ17,h⟩:=bind_s h
     try refine ZF (ZA cZ3 cZ5) ?_
     refine join_rule0 (sh:=(fun v=>⟨[(1,.lst .o 1 (ringZ0.map AV.i)),(2,.pt 2 0 0),(6,.sl 6 0 sZ2.2.1.length),(7,.sl 7 0 sZ2.2.2.length),(8,.sl 8 0 rZ1.length),(9,.i sZ2.1),(30,.b v)],[(2,.var (.agg [.lst .o 1 (nZ0.Nodes.map AV.z),.lst .o 4 (nZ0.Fibers.map (e_TFiber .o))])),(6,.arr 1 (sZ2.2.1.map AV.i)),(7,.arr 1 (sZ2.2.2.map AV.i)),(8,.arr 1 (rZ1.map AV.i))]⟩)) (s:=oZ17) ?_ ?_
     · replace h:=hoZ17
       obtain ⟨yZ13,hyZ13,h⟩:=bind_s h
       obtain ⟨hyZ13a,hyZ13b⟩:=geti_s hyZ13
       obtain ⟨rZ14,hrZ14,h⟩:=bind_s h
       refine ZF (ZA cZ3 (ZA cZ5 (ZA hyZ13a hyZ13b))) ?_
       refine ZS (ZA cZ3 (ZA cZ5 (ZA hyZ13a hyZ13b))) (w_ae _ _ hrZ14) ?_
       refine ZG ?_
       obtain ⟨cZ15,h⟩ | ⟨cZ15,h⟩:=cond_s h
       · obtain ⟨rZ16,hrZ16,h⟩:=bind_s h
         refine ZF (ZA cZ3 (ZA cZ5 (ZA hyZ13a (ZA hyZ13b cZ15)))) ?_
         refine ZS (ZA cZ3 (ZA cZ5 (ZA hyZ13a (ZA hyZ13b cZ15)))) (w_ae _ _ hrZ16) ?_
         refine ZG ?_
         cases h
         exact ZL (ZA cZ3 (ZA cZ5 (ZA hyZ13a (ZA hyZ13b cZ15)))) trivial
       · cases h
         exact ZL (ZA cZ3 (ZA cZ5 (ZA hyZ13a (ZA hyZ13b cZ15)))) trivial
     · simp only [ZC,A73R1]
       obtain ⟨cZ18,h⟩ | ⟨cZ18,h⟩:=cond_s h
       · obtain ⟨lZ19,hlZ19,h⟩:=bnd_s h
         have eZ20:Row.arr 1 [(.i sZ2.1:AV)]=Row.arr 1 (lZ19.map AV.i):=by rw [← hlZ19]; rfl
         have jjZ21:lZ19.length=1:=by rw [← hlZ19]; rfl
         obtain ⟨uZ22,huZ22,h⟩:=bind_s h
         have huZ22g:=grd_s huZ22
         obtain ⟨lZ23,hlZ23,h⟩:=bnd_s h
         have eZ24:sZ2.2.2.map AV.i++lZ19.map AV.i=lZ23.map AV.i:=by rw [← hlZ23,List.map_append]
         have eZ25:sZ2.2.2.length+1=lZ23.length:=by simp [← hlZ19,← hlZ23] <;> omega
         rw [eZ25] at huZ22g
         cases h
         exact ZL (ZA cZ3 (ZA cZ5 (ZA cZ18 (ZA eZ20 (ZA jjZ21 (ZA huZ22g (ZA eZ24 eZ25))))))) (ZA S_d.eq_1 (ZA SX_d.eq_1 (ZA hlZ19.symm (ZA hlZ23.symm jjZ21))))
       · cases h
         exact ZL (ZA cZ3 (ZA cZ5 cZ18)) (ZA S_d.eq_1 SX_d.eq_1)
 · cases h
   exact ZL cZ3 (ZA S_d.eq_1 SX_d.eq_1)
theorem w_dc (nZ0:TNetwork) (ringZ0:List Int) {r:List Int×List Int} (h:M_dc nZ0 ringZ0=some r):Ok Tryz.prog 73 [.agg [.lst .o 1 (nZ0.Nodes.map AV.z),.lst .o 4 (nZ0.Fibers.map (e_TFiber .o))],.lst .o 1 (ringZ0.map AV.i)] ((fun r=>.tup [.lst .u 1 (r.1.map AV.i),.lst .u 1 (r.2.map AV.i)]) r):=by
 refine ok_of_body hmix m73 rfl ?_
 unfold M_dc at h
 simp only [ZC,A73,V73,body_eq]
 obtain ⟨rZ1,hrZ1,h⟩:=bind_s h
 refine ZF trivial ?_
 refine ZU trivial (w_db _ _ hrZ1) ?_
 refine ZG ?_
 obtain ⟨oZ26,hoZ26,h⟩:=bind_s h
 try refine ZF trivial ?_
 refine join_rule0 (blk_rule0 (loop_rule (w_d nZ0 ringZ0 rZ1) hoZ26 ?_)) ?_
 · exact ZK (ZA S_d.eq_1 SX_d.eq_1)
 · simp only [ZC,SX_d,A73R3]
   cases h
   exact ZL trivial V73.eq_1
def S_q (listZ0:List Int) (v:Int×Int):St:=⟨[(0,.lst .o 1 (listZ0.map AV.i)),(3,.i v.1),(4,.i v.2)],[]⟩
def SX_q (v:Int):St:=⟨[(3,.i v)],[]⟩
theorem w_q (listZ0:List Int) (sZ1:Int×Int) (o:(Int×Int) ⊕ Int) (h:M_q listZ0 sZ1=some o):AWP (OkS Tryz.prog) A91L1 (qL [0,3,4] [] (S_q listZ0) (qX 0 [3] [] (SX_q)) o) (S_q listZ0 sZ1):=by
 unfold M_q at h
 simp only [ZC,S_q,A91L1]
 obtain ⟨cZ2,h⟩ | ⟨cZ2,h⟩:=cond_s h
 · obtain ⟨yZ3,hyZ3,h⟩:=bind_s h
   obtain ⟨hyZ3a,hyZ3b⟩:=geti_s hyZ3
   obtain ⟨uZ4,huZ4,h⟩:=bind_s h
   have huZ4g:=grd_s huZ4
   cases h
   exact ZL (ZA cZ2 (ZA hyZ3a (ZA hyZ3b huZ4g))) (ZA S_q.eq_1 SX_q.eq_1)
 · cases h
   exact ZL cZ2 (ZA S_q.eq_1 SX_q.eq_1)
theorem w_by (listZ0:List Int) {r:Int} (h:M_by listZ0=some r):Ok Tryz.prog 91 [.lst .o 1 (listZ0.map AV.i)] ((fun r=>.i r) r):=by
 refine ok_of_body hmix m91 rfl ?_
 unfold M_by at h
 simp only [ZC,A91,V91,body_eq]
 obtain ⟨oZ5,hoZ5,h⟩:=bind_s h
 try refine ZF trivial ?_
 refine join_rule0 (blk_rule0 (loop_rule (w_q listZ0) hoZ5 ?_)) ?_
 · exact ZK (ZA S_q.eq_1 SX_q.eq_1)
 · simp only [ZC,SX_q,A91R2]
   cases h
   exact ZL trivial V91.eq_1
theorem w_bz (nZ0:TNetwork) (ringZ0:List Int) {r:Int} (h:M_bz nZ0 ringZ0=some r):Ok Tryz.prog 45 [.agg [.lst .o 1 (nZ0.Nodes.map AV.z),.lst .o 4 (nZ0.Fibers.map (e_TFiber .o))],.lst .o 1 (ringZ0.map AV.i)] ((fun r=>.i r) r):=by
 refine ok_of_body hmix m45 rfl ?_
 unfold M_bz at h
 simp only [ZC,A45,V45,body_eq]
 obtain ⟨rZ1,hrZ1,h⟩:=bind_s h
 refine ZF trivial ?_
 refine ZU trivial (w_dc _ _ hrZ1) ?_
 refine ZG ?_
 obtain ⟨rZ2,hrZ2,h⟩:=bind_s h
 refine ZF trivial ?_
 refine ZS trivial (w_by _ hrZ2) ?_
 refine ZG ?_
 obtain ⟨rZ3,hrZ3,h⟩:=bind_s h
 refine ZF trivial ?_
 refine ZS trivial (w_by _ hrZ3) ?_
 refine ZG ?_
 cases h
 exact ZL trivial V45.eq_1
def S_az (v:Int×Int):St:=⟨[(0,.i v.1),(3,.i v.2)],[]⟩
def SX_az (v:Int):St:=⟨[(3,.i v)],[]⟩
theorem w_az (sZ1:Int×Int) (o:(Int×Int) ⊕ Int) (h:M_az sZ1=some o):AWP (OkS Tryz.prog) A53L1 (qL [0,3] [] (S_az) (qX 0 [3] [] (SX_az)) o) (S_az sZ1):=by
 unfold M_az at h
 simp only [ZC,S_az,A53L1]
 obtain ⟨cZ2,h⟩ | ⟨cZ2,h⟩:=cond_s h
 · cases h
   exact ZL cZ2 (ZA S_az.eq_1 SX_az.eq_1)
 · cases h
   exact ZL cZ2 (ZA S_az.eq_1 SX_az.eq_1)
theorem w_cf (maskZ0:Int) {r:Int} (h:M_cf maskZ0=some r):Ok Tryz.prog 53 [.i maskZ0] ((fun r=>.i r) r):=by
 refine ok_of_body hmix m53 rfl ?_
 unfold M_cf at h
 simp only [ZC,A53,V53,body_eq]
 obtain ⟨oZ3,hoZ3,h⟩:=bind_s h
 try refine ZF trivial ?_
 refine join_rule0 (blk_rule0 (loop_rule (w_az) hoZ3 ?_)) ?_
 · exact ZK (ZA S_az.eq_1 SX_az.eq_1)
 · simp only [ZC,SX_az,A53R2]
   cases h
   exact ZL trivial V53.eq_1
def S_e (nZ0:TNetwork) (rZ1:Bool×List (List Int)) (sZ3:Int×List (List Int)) (v:Int×Int×Int):St:=⟨[(1,.pt 1 0 0),(4,.sl 4 0 sZ3.2.length),(5,.sl 5 0 rZ1.2.length),(7,.i sZ3.1),(8,.i v.1),(9,.i v.2.1),(10,.i v.2.2)],[(1,.var (.agg [.lst .o 1 (nZ0.Nodes.map AV.z),.lst .o 4 (nZ0.Fibers.map (e_TFiber .o))])),(4,.arr 1 (sZ3.2.map (e_Li .u))),(5,.arr 1 (rZ1.2.map (e_Li .m)))]⟩
def SX_e (nZ0:TNetwork) (rZ1:Bool×List (List Int)) (sZ3:Int×List (List Int)) (v:Int):St:=⟨[(1,.pt 1 0 0),(4,.sl 4 0 sZ3.2.length),(5,.sl 5 0 rZ1.2.length),(7,.i sZ3.1),(8,.i v)],[(1,.var (.agg [.lst .o 1 (nZ0.Nodes.map AV.z),.lst .o 4 (nZ0.Fibers.map (e_TFiber .o))])),(4,.arr 1 (sZ3.2.map (e_Li .u))),(5,.arr 1 (rZ1.2.map (e_Li .m)))]⟩
theorem w_e (nZ0:TNetwork) (rZ1:Bool×List (List Int)) (sZ3:Int×List (List Int)) (sZ4:Int×Int×Int) (o:(Int×Int×Int) ⊕ Int) (h:M_e nZ0 rZ1 sZ3 sZ4=some o):AWP (OkS Tryz.prog) A17L1 (qL [1,4,5,7,8,9,10] [1,4,5] (S_e nZ0 rZ1 sZ3) (qX 2 [1,4,5,7,8] [1,4,5] (SX_e nZ0 rZ1 sZ3)) o) (S_e nZ0 rZ1 sZ3 sZ4):=by
 unfold M_e at h
 simp only [ZC,S_e,A17L1]
 obtain ⟨cZ5,h⟩ | ⟨cZ5,h⟩:=cond_s h
 · obtain ⟨kZ6,hkZ6,h⟩:=bind_s h
   obtain ⟨hkZ6a,hkZ6b⟩:=grd_s hkZ6
   obtain ⟨yZ7,hyZ7,h⟩:=bind_s h
   obtain ⟨rZ8,hrZ8,h⟩:=bind_s h
   refine ZF (ZA cZ5 (ZA hkZ6a (ZA hkZ6b hyZ7))) ?_
   refine ZS (ZA cZ5 (ZA hkZ6a (ZA hkZ6b hyZ7))) (w_bz _ _ hrZ8) ?_
   refine ZG ?_
   obtain ⟨rZ9,hrZ9,h⟩:=bind_s h
   refine ZF (ZA cZ5 (ZA hkZ6a (ZA hkZ6b hyZ7))) ?_
   refine ZS (ZA cZ5 (ZA hkZ6a (ZA hkZ6b hyZ7))) (w_cf _ hrZ9) ?_
   refine ZG ?_
   obtain ⟨cZ10,h⟩ | ⟨cZ10,h⟩:=cond_s h
   · cases h
     exact ZL (ZA cZ5 (ZA hkZ6a (ZA hkZ6b (ZA hyZ7 cZ10)))) (ZA S_e.eq_1 SX_e.eq_1)
   · cases h
     exact ZL (ZA cZ5 (ZA hkZ6a (ZA hkZ6b (ZA hyZ7 cZ10)))) (ZA S_e.eq_1 SX_e.eq_1)
 · cases h
   exact ZL cZ5 (ZA S_e.eq_1 SX_e.eq_1)
def S_r (nZ0:TNetwork) (rZ1:Bool×List (List Int)) (v:Int×List (List Int)):St:=⟨[(1,.pt 1 0 0),(4,.sl 4 0 v.2.length),(5,.sl 5 0 rZ1.2.length),(7,.i v.1)],[(1,.var (.agg [.lst .o 1 (nZ0.Nodes.map AV.z),.lst .o 4 (nZ0.Fibers.map (e_TFiber .o))])),(4,.arr 1 (v.2.map (e_Li .u))),(5,.arr 1 (rZ1.2.map (e_Li .m)))]⟩
def SX_r (v:Empty):St:=⟨[],[]⟩
theorem w_r (nZ0:TNetwork) (rZ1:Bool×List (List Int)) (sZ3:Int×List (List Int)) (o:(Int×List (List Int)) ⊕ (Empty ⊕ (List (List Int)×Bool))) (h:M_r nZ0 rZ1 sZ3=some o):AWP (OkS Tryz.prog) A17L3 (qL [1,4,5,7] [1,4,5] (S_r nZ0 rZ1) (qS (qX 0 [] [] (SX_r)) (qR V17 (fun r=>.tup [.lst .u 1 (r.1.map (e_Li .u)),.b r.2]))) o) (S_r nZ0 rZ1 sZ3):=by
 unfold M_r at h
 simp only [ZC,S_r,A17L3]
 obtain ⟨oZ11,hoZ11,h⟩:=bind_s h
 try refine ZF trivial ?_
 refine join_rule0 (blk_rule0 (loop_rule (w_e nZ0 rZ1 sZ3) hoZ11 ?_)) ?_
 · exact ZK (ZA S_e.eq_1 SX_e.eq_1)
 · simp only [ZC,SX_e,A17R2]
   obtain ⟨cZ12,h⟩ | ⟨cZ12,h⟩:=cond_s h
   · cases h
     exact ZL cZ12 V17.eq_1
   · obtain ⟨kZ13,hkZ13,h⟩:=bind_s h
     obtain ⟨hkZ13a,hkZ13b⟩:=grd_s hkZ13
     obtain ⟨yZ14,hyZ14,h⟩:=bind_s h
     obtain ⟨rZ15,hrZ15,h⟩:=bind_s h
     refine ZF (ZA cZ12 (ZA hkZ13a (ZA hkZ13b hyZ14))) ?_
     refine ZU (ZA cZ12 (ZA hkZ13a (ZA hkZ13b hyZ14))) (w_bo _ hrZ15) ?_
     refine ZG ?_
     obtain ⟨lZ16,hlZ16,h⟩:=bnd_s h
     have eZ17:Row.arr 1 [(.lst .u 1 (rZ15.map AV.i):AV)]=Row.arr 1 (lZ16.map (e_Li .u)):=by rw [← hlZ16]; rfl
     have jjZ18:lZ16.length=1:=by rw [← hlZ16]; rfl
     obtain ⟨uZ19,huZ19,h⟩:=bind_s h
     have huZ19g:=grd_s huZ19
     obtain ⟨lZ20,hlZ20,h⟩:=bnd_s h
     have eZ21:sZ3.2.map (e_Li .u)++lZ16.map (e_Li .u)=lZ20.map (e_Li .u):=by rw [← hlZ20,List.map_append]
     have eZ22:sZ3.2.length+1=lZ20.length:=by simp [← hlZ16,← hlZ20] <;> omega
     rw [eZ22] at huZ19g
     obtain ⟨rZ23,hrZ23,h⟩:=bind_s h
     refine ZF (ZA cZ12 (ZA hkZ13a (ZA hkZ13b (ZA hyZ14 (ZA eZ17 (ZA jjZ18 (ZA huZ19g (ZA eZ21 eZ22)))))))) ?_
     refine ZS (ZA cZ12 (ZA hkZ13a (ZA hkZ13b (ZA hyZ14 (ZA eZ17 (ZA jjZ18 (ZA huZ19g (ZA eZ21 eZ22)))))))) (w_bz _ _ hrZ23) ?_
     refine ZG ?_
     cases h
     exact ZL (ZA cZ12 (ZA hkZ13a (ZA hkZ13b (ZA hyZ14 (ZA eZ17 (ZA jjZ18 (ZA huZ19g (ZA eZ21 eZ22)))))))) (ZA S_r.eq_1 (ZA SX_r.eq_1 (ZA hlZ16.symm (ZA hlZ20.symm jjZ18))))
theorem w_dd (nZ0:TNetwork) {r:List (List Int)×Bool} (h:M_dd nZ0=some r):Ok Tryz.prog 17 [.agg [.lst .o 1 (nZ0.Nodes.map AV.z),.lst .o 4 (nZ0.Fibers.map (e_TFiber .o))]] ((fun r=>.tup [.lst .u 1 (r.1.map (e_Li .u)),.b r.2]) r):=by
 refine ok_of_body hmix m17 rfl ?_
 unfold M_dd at h
 simp only [ZC,A17,V17,body_eq]
 obtain ⟨rZ1,hrZ1,h⟩:=bind_s h
 refine ZF trivial ?_
 refine ZW trivial (w_cz _ hrZ1) (h2:=by first | exact nm_ok [2] rfl (by decide +kernel) | exact nm_ok2 [2] [1600002] rfl (by decide +kernel) ZQ | exact ZQ) (hk:=?_)
 refine ZG ?_
 obtain ⟨cZ2,h⟩ | ⟨cZ2,h⟩:=cond_s h
 · cases h
   exact ZL cZ2 V17.eq_1
 · obtain ⟨oZ24,hoZ24,h⟩:=bind_s h
   try refine ZF cZ2 ?_
   first | refine tail_rule (o:=oZ24) (blk_rule sideR (loop_rule (w_r nZ0 rZ1) hoZ24 ?_)) (fun vZ25 hv τ qZ27=>?_) (fun xZ26 hv e τ hne hq=>?_) | refine tail_blk (o:=oZ24) sideR (loop_rule (w_r nZ0 rZ1) hoZ24 ?_) (fun vZ25 hv τ qZ27=>?_) (fun xZ26 hv e τ hne hq=>?_)
   · exact ZK (ZA S_r.eq_1 SX_r.eq_1)
   · exact vZ25.elim
   · subst hv
     simp only [] at h
     obtain ⟨rfl,qZ28⟩:=hq
     cases h
     exact qZ28
theorem w_bf (nZ0:Int) (lowZ0:Int) (highZ0:Int) {r:Bool} (h:M_bf nZ0 lowZ0 highZ0=some r):Ok Tryz.prog 70 [.i nZ0,.i lowZ0,.i highZ0] ((fun r=>.b r) r):=by
 refine ok_of_body hmix m70 rfl ?_
 unfold M_bf at h
 simp only [ZC,A70,V70,body_eq]
 obtain ⟨cZ1,h⟩ | ⟨cZ1,h⟩:=cond_s h
 · cases h
   exact ZL cZ1 V70.eq_1
 · cases h
   exact ZL cZ1 V70.eq_1
def S_k (sZ0:ByteArray) (v:Int):St:=⟨[(0,.z sZ0),(7,.i (sZ0.size:Int)),(8,.i v)],[]⟩
def SX_k (sZ0:ByteArray) (v:Unit):St:=⟨[(0,.z sZ0)],[]⟩
theorem w_k (sZ0:ByteArray) (sZ1:Int) (o:Int ⊕ (Unit ⊕ Bool)) (h:M_k sZ0 sZ1=some o):AWP (OkS Tryz.prog) A97L2 (qL [0,7,8] [] (S_k sZ0) (qS (qX 0 [0] [] (SX_k sZ0)) (qR V97 (fun r=>.b r))) o) (S_k sZ0 sZ1):=by
 unfold M_k at h
 simp only [ZC,S_k,A97L2]
 obtain ⟨cZ2,h⟩ | ⟨cZ2,h⟩:=cond_s h
 · obtain ⟨oZ7,hoZ7,h⟩:=bind_s h
   try refine ZF cZ2 ?_
   refine join_rule0 (sh:=(fun v=>⟨[(0,.z sZ0),(3,.i sZ1),(4,.b v.1),(5,.b v.2),(7,.i (sZ0.size:Int)),(8,.i sZ1)],[]⟩)) (s:=oZ7) ?_ ?_
   · replace h:=hoZ7
     obtain ⟨yZ3,hyZ3,h⟩:=bind_s h
     obtain ⟨hyZ3a,hyZ3b⟩:=getz_s hyZ3
     obtain ⟨cZ4,h⟩ | ⟨cZ4,h⟩:=cond_s h
     · obtain ⟨cZ5,h⟩ | ⟨cZ5,h⟩:=cond_s h
       · cases h
         exact ZL (ZA cZ2 (ZA hyZ3a (ZA hyZ3b (ZA cZ4 cZ5)))) trivial
       · cases h
         exact ZL (ZA cZ2 (ZA hyZ3a (ZA hyZ3b (ZA cZ4 cZ5)))) trivial
     · obtain ⟨cZ6,h⟩ | ⟨cZ6,h⟩:=cond_s h
       · cases h
         exact ZL (ZA cZ2 (ZA hyZ3a (ZA hyZ3b (ZA cZ4 cZ6)))) trivial
       · cases h
         exact ZL (ZA cZ2 (ZA hyZ3a (ZA hyZ3b (ZA cZ4 cZ6)))) trivial
   · simp only [ZC,A97R1]
     obtain ⟨cZ8,h⟩ | ⟨cZ8,h⟩:=cond_s h
     · obtain ⟨cZ9,h⟩ | ⟨cZ9,h⟩:=cond_s h
       · cases h
         exact ZL (ZA cZ2 (ZA cZ8 cZ9)) V97.eq_1
       · obtain ⟨cZ10,h⟩ | ⟨cZ10,h⟩:=cond_s h
         · cases h
           exact ZL (ZA cZ2 (ZA cZ8 (ZA cZ9 cZ10))) V97.eq_1
         · cases h
           exact ZL (ZA cZ2 (ZA cZ8 (ZA cZ9 cZ10))) (ZA S_k.eq_1 SX_k.eq_1)
     · cases h
       exact ZL (ZA cZ2 cZ8) (ZA S_k.eq_1 SX_k.eq_1)
 · cases h
   exact ZL cZ2 (ZA S_k.eq_1 SX_k.eq_1)
theorem w_de (sZ0:ByteArray) {r:Bool} (h:M_de sZ0=some r):Ok Tryz.prog 97 [.z sZ0] ((fun r=>.b r) r):=by
 refine ok_of_body hmix m97 rfl ?_
 unfold M_de at h
 simp only [ZC,A97,V97,body_eq]
 obtain ⟨oZ11,hoZ11,h⟩:=bind_s h
 try refine ZF trivial ?_
 refine join_rule (o:=oZ11) (blk_rule sideR (loop_rule (w_k sZ0) hoZ11 ?_)) (fun vZ12 hv=>?_) (fun xZ13 hv e τ hne hq=>?_)
 · exact ZK (ZA S_k.eq_1 SX_k.eq_1)
 · subst hv
   simp only [] at h
   simp only [ZC,SX_k,A97R3]
   obtain ⟨rZ14,hrZ14,h⟩:=bind_s h
   refine ZF trivial ?_
   refine ZS trivial (w_bf _ _ _ hrZ14) ?_
   refine ZG ?_
   cases h
   exact ZL trivial V97.eq_1
 · subst hv
   simp only [] at h
   obtain ⟨rfl,qZ15⟩:=hq
   cases h
   exact qZ15
def S_ai (sZ0:List ByteArray) (vZ0:ByteArray) (v:Int):St:=⟨[(0,.lst .o 1 (sZ0.map AV.z)),(1,.z vZ0),(7,.i (sZ0.length:Int)),(8,.i v)],[]⟩
def SX_ai (v:Unit):St:=⟨[],[]⟩
theorem w_ai (sZ0:List ByteArray) (vZ0:ByteArray) (sZ1:Int) (o:Int ⊕ (Unit ⊕ Int)) (h:M_ai sZ0 vZ0 sZ1=some o):AWP (OkS Tryz.prog) A135L1 (qL [0,1,7,8] [] (S_ai sZ0 vZ0) (qS (qX 0 [] [] (SX_ai)) (qR V135 (fun r=>.i r))) o) (S_ai sZ0 vZ0 sZ1):=by
 unfold M_ai at h
 simp only [ZC,S_ai,A135L1]
 obtain ⟨cZ2,h⟩ | ⟨cZ2,h⟩:=cond_s h
 · obtain ⟨yZ3,hyZ3,h⟩:=bind_s h
   obtain ⟨hyZ3a,hyZ3b⟩:=geti_s hyZ3
   obtain ⟨cZ4,h⟩ | ⟨cZ4,h⟩:=cond_s h
   · cases h
     exact ZL (ZA cZ2 (ZA hyZ3a (ZA hyZ3b cZ4))) V135.eq_1
   · cases h
     exact ZL (ZA cZ2 (ZA hyZ3a (ZA hyZ3b cZ4))) (ZA S_ai.eq_1 SX_ai.eq_1)
 · cases h
   exact ZL cZ2 (ZA S_ai.eq_1 SX_ai.eq_1)
theorem w_ec (sZ0:List ByteArray) (vZ0:ByteArray) {r:Int} (h:M_ec sZ0 vZ0=some r):Ok Tryz.prog 135 [.lst .o 1 (sZ0.map AV.z),.z vZ0] ((fun r=>.i r) r):=by
 refine ok_of_body hmix m135 rfl ?_
 unfold M_ec at h
 simp only [ZC,A135,V135,body_eq]
 obtain ⟨oZ5,hoZ5,h⟩:=bind_s h
 try refine ZF trivial ?_
 refine join_rule (o:=oZ5) (blk_rule sideR (loop_rule (w_ai sZ0 vZ0) hoZ5 ?_)) (fun vZ6 hv=>?_) (fun xZ7 hv e τ hne hq=>?_)
 · exact ZK (ZA S_ai.eq_1 SX_ai.eq_1)
 · subst hv
   simp only [] at h
   simp only [ZC,SX_ai,A135R2]
   cases h
   exact ZL trivial V135.eq_1
 · subst hv
   simp only [] at h
   obtain ⟨rfl,qZ8⟩:=hq
   cases h
   exact qZ8
theorem w_df (sZ0:List ByteArray) (vZ0:ByteArray) {r:Bool} (h:M_df sZ0 vZ0=some r):Ok Tryz.prog 98 [.lst .o 1 (sZ0.map AV.z),.z vZ0] ((fun r=>.b r) r):=by
 refine ok_of_body hmix m98 rfl ?_
 unfold M_df at h
 simp only [ZC,A98,V98,body_eq]
 obtain ⟨rZ1,hrZ1,h⟩:=bind_s h
 refine ZF trivial ?_
 refine ZS trivial (w_ec _ _ hrZ1) ?_
 refine ZG ?_
 cases h
 exact ZL trivial V98.eq_1
theorem w_bk (xZ0:Int) {r:Bool} (h:M_bk xZ0=some r):Ok Tryz.prog 153 [.i xZ0] ((fun r=>.b r) r):=by
 refine ok_of_body hmix m153 rfl ?_
 unfold M_bk at h
 simp only [ZC,A153,V153,body_eq]
 cases h
 exact ZL trivial V153.eq_1
theorem w_bg (xZ0:Int) (yZ0:Int) {r:Int} (h:M_bg xZ0 yZ0=some r):Ok Tryz.prog 121 [.i xZ0,.i yZ0] ((fun r=>.i r) r):=by
 refine ok_of_body hmix m121 rfl ?_
 unfold M_bg at h
 simp only [ZC,A121,V121,body_eq]
 obtain ⟨rZ1,hrZ1,h⟩:=bind_s h
 refine ZF trivial ?_
 refine ZS trivial (w_bk _ hrZ1) ?_
 refine ZG ?_
 obtain ⟨rZ2,hrZ2,h⟩:=bind_s h
 refine ZF trivial ?_
 refine ZS trivial (w_bk _ hrZ2) ?_
 refine ZG ?_
 obtain ⟨cZ3,h⟩ | ⟨cZ3,h⟩:=cond_s h
 · obtain ⟨cZ4,h⟩ | ⟨cZ4,h⟩:=cond_s h
   · cases h
     exact ZL (ZA cZ3 cZ4) V121.eq_1
   · cases h
     exact ZL (ZA cZ3 cZ4) V121.eq_1
 · obtain ⟨cZ5,h⟩ | ⟨cZ5,h⟩:=cond_s h
   · cases h
     exact ZL (ZA cZ3 cZ5) V121.eq_1
   · obtain ⟨cZ6,h⟩ | ⟨cZ6,h⟩:=cond_s h
     · cases h
       exact ZL (ZA cZ3 (ZA cZ5 cZ6)) V121.eq_1
     · obtain ⟨cZ7,h⟩ | ⟨cZ7,h⟩:=cond_s h
       · cases h
         exact ZL (ZA cZ3 (ZA cZ5 (ZA cZ6 cZ7))) V121.eq_1
       · cases h
         exact ZL (ZA cZ3 (ZA cZ5 (ZA cZ6 cZ7))) V121.eq_1
def S_g (valsZ0:List Int) (v:Int):St:=⟨[(3,.i 0),(6,.lst .o 1 (valsZ0.map AV.i)),(7,.i (valsZ0.length:Int)),(8,.i v)],[]⟩
def SX_g (v:Unit):St:=⟨[(3,.i 0)],[]⟩
theorem w_g (valsZ0:List Int) (sZ1:Int) (o:Int ⊕ (Unit ⊕ Int)) (h:M_g valsZ0 sZ1=some o):AWP (OkS Tryz.prog) A120L1 (qL [3,6,7,8] [] (S_g valsZ0) (qS (qX 0 [3] [] (SX_g)) (qR V120 (fun r=>.i r))) o) (S_g valsZ0 sZ1):=by
 unfold M_g at h
 simp only [ZC,S_g,A120L1]
 obtain ⟨cZ2,h⟩ | ⟨cZ2,h⟩:=cond_s h
 · obtain ⟨yZ3,hyZ3,h⟩:=bind_s h
   obtain ⟨hyZ3a,hyZ3b⟩:=geti_s hyZ3
   obtain ⟨cZ4,h⟩ | ⟨cZ4,h⟩:=cond_s h
   · cases h
     exact ZL (ZA cZ2 (ZA hyZ3a (ZA hyZ3b cZ4))) V120.eq_1
   · cases h
     exact ZL (ZA cZ2 (ZA hyZ3a (ZA hyZ3b cZ4))) (ZA S_g.eq_1 SX_g.eq_1)
 · cases h
   exact ZL cZ2 (ZA S_g.eq_1 SX_g.eq_1)
theorem w_bw (valsZ0:List Int) {r:Int} (h:M_bw valsZ0=some r):Ok Tryz.prog 120 [.lst .o 1 (valsZ0.map AV.i)] ((fun r=>.i r) r):=by
 refine ok_of_body hmix m120 rfl ?_
 unfold M_bw at h
 simp only [ZC,A120,V120,body_eq]
 obtain ⟨oZ5,hoZ5,h⟩:=bind_s h
 try refine ZF trivial ?_
 refine join_rule (o:=oZ5) (blk_rule sideR (loop_rule (w_g valsZ0) hoZ5 ?_)) (fun vZ6 hv=>?_) (fun xZ7 hv e τ hne hq=>?_)
 · exact ZK (ZA S_g.eq_1 SX_g.eq_1)
 · subst hv
   simp only [] at h
   simp only [ZC,SX_g,A120R2]
   cases h
   exact ZL trivial V120.eq_1
 · subst hv
   simp only [] at h
   obtain ⟨rfl,qZ8⟩:=hq
   cases h
   exact qZ8
theorem w_dg (aZ0:TFiber) (bZ0:TFiber) {r:Int} (h:M_dg aZ0 bZ0=some r):Ok Tryz.prog 99 [.agg [.i aZ0.A,.i aZ0.B,.i aZ0.Length,.i aZ0.Risk],.agg [.i bZ0.A,.i bZ0.B,.i bZ0.Length,.i bZ0.Risk]] ((fun r=>.i r) r):=by
 refine ok_of_body hmix m99 rfl ?_
 unfold M_dg at h
 simp only [ZC,A99,V99,body_eq]
 obtain ⟨rZ1,hrZ1,h⟩:=bind_s h
 refine ZF trivial ?_
 refine ZS trivial (w_bg _ _ hrZ1) ?_
 refine ZG ?_
 obtain ⟨rZ2,hrZ2,h⟩:=bind_s h
 refine ZF trivial ?_
 refine ZS trivial (w_bg _ _ hrZ2) ?_
 refine ZG ?_
 obtain ⟨rZ3,hrZ3,h⟩:=bind_s h
 refine ZF trivial ?_
 refine ZS trivial (w_bg _ _ hrZ3) ?_
 refine ZG ?_
 obtain ⟨rZ4,hrZ4,h⟩:=bind_s h
 refine ZF trivial ?_
 refine ZS trivial (w_bg _ _ hrZ4) ?_
 refine ZG ?_
 obtain ⟨lZ5,hlZ5,h⟩:=bnd_s h
 have eZ6:Row.arr 1 [(.i rZ1:AV),(.i rZ2:AV),(.i rZ3:AV),(.i rZ4:AV)]=Row.arr 1 (lZ5.map AV.i):=by rw [← hlZ5]; rfl
 have jjZ7:lZ5.length=4:=by rw [← hlZ5]; rfl
 have nZ8:sub (lZ5.map AV.i) 0 4=lZ5.map AV.i:=sub_n _ (by simp [← hlZ5])
 obtain ⟨rZ9,hrZ9,h⟩:=bind_s h
 refine ZF (ZA eZ6 (ZA jjZ7 nZ8)) ?_
 refine ZS (ZA eZ6 (ZA jjZ7 nZ8)) (w_bw _ hrZ9) ?_
 refine ZG ?_
 cases h
 exact ZL (ZA eZ6 (ZA jjZ7 nZ8)) (ZA V99.eq_1 (ZA hlZ5.symm jjZ7))
def S_aj (nZ0:TNetwork) (v:Int):St:=⟨[(1,.pt 1 0 0),(8,.lst .o 1 (nZ0.Nodes.map AV.z)),(9,.i (nZ0.Nodes.length:Int)),(10,.i v)],[(1,.var (.agg [.lst .o 1 (nZ0.Nodes.map AV.z),.lst .o 4 (nZ0.Fibers.map (e_TFiber .o))]))]⟩
def SX_aj (nZ0:TNetwork) (v:Unit):St:=⟨[(1,.pt 1 0 0)],[(1,.var (.agg [.lst .o 1 (nZ0.Nodes.map AV.z),.lst .o 4 (nZ0.Fibers.map (e_TFiber .o))]))]⟩
theorem w_aj (nZ0:TNetwork) (sZ1:Int) (o:Int ⊕ (Unit ⊕ Bool)) (h:M_aj nZ0 sZ1=some o):AWP (OkS Tryz.prog) A57L1 (qL [1,8,9,10] [1] (S_aj nZ0) (qS (qX 0 [1] [1] (SX_aj nZ0)) (qR V57 (fun r=>.b r))) o) (S_aj nZ0 sZ1):=by
 unfold M_aj at h
 simp only [ZC,S_aj,A57L1]
 obtain ⟨cZ2,h⟩ | ⟨cZ2,h⟩:=cond_s h
 · obtain ⟨yZ3,hyZ3,h⟩:=bind_s h
   obtain ⟨hyZ3a,hyZ3b⟩:=geti_s hyZ3
   obtain ⟨rZ4,hrZ4,h⟩:=bind_s h
   refine ZF (ZA cZ2 (ZA hyZ3a hyZ3b)) ?_
   refine ZS (ZA cZ2 (ZA hyZ3a hyZ3b)) (w_de _ hrZ4) ?_
   refine ZG ?_
   obtain ⟨cZ5,h⟩ | ⟨cZ5,h⟩:=cond_s h
   · cases h
     exact ZL (ZA cZ2 (ZA hyZ3a (ZA hyZ3b cZ5))) V57.eq_1
   · obtain ⟨lZ6,hlZ6,h⟩:=bind_s h
     obtain ⟨hlZ6a,hlZ6b,hlZ6c,hlZ6d,hlZ6e⟩:=slT_s AV.z hlZ6
     obtain ⟨rZ7,hrZ7,h⟩:=bind_s h
     refine ZF (ZA cZ2 (ZA hyZ3a (ZA hyZ3b (ZA cZ5 (ZA hlZ6a (ZA hlZ6b (ZA hlZ6c (ZA hlZ6d hlZ6e)))))))) ?_
     refine ZS (ZA cZ2 (ZA hyZ3a (ZA hyZ3b (ZA cZ5 (ZA hlZ6a (ZA hlZ6b (ZA hlZ6c (ZA hlZ6d hlZ6e)))))))) (w_df _ _ hrZ7) ?_
     refine ZG ?_
     obtain ⟨cZ8,h⟩ | ⟨cZ8,h⟩:=cond_s h
     · cases h
       exact ZL (ZA cZ2 (ZA hyZ3a (ZA hyZ3b (ZA cZ5 (ZA hlZ6a (ZA hlZ6b (ZA hlZ6c (ZA hlZ6d (ZA hlZ6e cZ8))))))))) V57.eq_1
     · cases h
       exact ZL (ZA cZ2 (ZA hyZ3a (ZA hyZ3b (ZA cZ5 (ZA hlZ6a (ZA hlZ6b (ZA hlZ6c (ZA hlZ6d (ZA hlZ6e cZ8))))))))) (ZA S_aj.eq_1 SX_aj.eq_1)
 · cases h
   exact ZL cZ2 (ZA S_aj.eq_1 SX_aj.eq_1)
def S_l (nZ0:TNetwork) (v:Int):St:=⟨[(1,.pt 1 0 0),(28,.lst .o 4 (nZ0.Fibers.map (e_TFiber .o))),(29,.i (nZ0.Fibers.length:Int)),(30,.i v)],[(1,.var (.agg [.lst .o 1 (nZ0.Nodes.map AV.z),.lst .o 4 (nZ0.Fibers.map (e_TFiber .o))]))]⟩
def SX_l (nZ0:TNetwork) (v:Unit):St:=⟨[(1,.pt 1 0 0)],[(1,.var (.agg [.lst .o 1 (nZ0.Nodes.map AV.z),.lst .o 4 (nZ0.Fibers.map (e_TFiber .o))]))]⟩
theorem w_l (nZ0:TNetwork) (sZ12:Int) (o:Int ⊕ (Unit ⊕ Bool)) (h:M_l nZ0 sZ12=some o):AWP (OkS Tryz.prog) A57L3 (qL [1,28,29,30] [1] (S_l nZ0) (qS (qX 2 [1] [1] (SX_l nZ0)) (qR V57 (fun r=>.b r))) o) (S_l nZ0 sZ12):=by
 unfold M_l at h
 simp only [ZC,S_l,A57L3]
 obtain ⟨cZ13,h⟩ | ⟨cZ13,h⟩:=cond_s h
 · obtain ⟨yZ14,hyZ14,h⟩:=bind_s h
   obtain ⟨hyZ14a,hyZ14b⟩:=geti_s hyZ14
   obtain ⟨cZ15,h⟩ | ⟨cZ15,h⟩:=cond_s h
   · cases h
     exact ZL (ZA cZ13 (ZA hyZ14a (ZA hyZ14b cZ15))) V57.eq_1
   · obtain ⟨cZ16,h⟩ | ⟨cZ16,h⟩:=cond_s h
     · cases h
       exact ZL (ZA cZ13 (ZA hyZ14a (ZA hyZ14b (ZA cZ15 cZ16)))) V57.eq_1
     · obtain ⟨cZ17,h⟩ | ⟨cZ17,h⟩:=cond_s h
       · cases h
         exact ZL (ZA cZ13 (ZA hyZ14a (ZA hyZ14b (ZA cZ15 (ZA cZ16 cZ17))))) V57.eq_1
       · obtain ⟨rZ18,hrZ18,h⟩:=bind_s h
         refine ZF (ZA cZ13 (ZA hyZ14a (ZA hyZ14b (ZA cZ15 (ZA cZ16 cZ17))))) ?_
         refine ZS (ZA cZ13 (ZA hyZ14a (ZA hyZ14b (ZA cZ15 (ZA cZ16 cZ17))))) (w_bf _ _ _ hrZ18) ?_
         refine ZG ?_
         obtain ⟨cZ19,h⟩ | ⟨cZ19,h⟩:=cond_s h
         · cases h
           exact ZL (ZA cZ13 (ZA hyZ14a (ZA hyZ14b (ZA cZ15 (ZA cZ16 (ZA cZ17 cZ19)))))) V57.eq_1
         · obtain ⟨rZ20,hrZ20,h⟩:=bind_s h
           refine ZF (ZA cZ13 (ZA hyZ14a (ZA hyZ14b (ZA cZ15 (ZA cZ16 (ZA cZ17 cZ19)))))) ?_
           refine ZS (ZA cZ13 (ZA hyZ14a (ZA hyZ14b (ZA cZ15 (ZA cZ16 (ZA cZ17 cZ19)))))) (w_bf _ _ _ hrZ20) ?_
           refine ZG ?_
           obtain ⟨cZ21,h⟩ | ⟨cZ21,h⟩:=cond_s h
           · cases h
             exact ZL (ZA cZ13 (ZA hyZ14a (ZA hyZ14b (ZA cZ15 (ZA cZ16 (ZA cZ17 (ZA cZ19 cZ21))))))) V57.eq_1
           · obtain ⟨cZ22,h⟩ | ⟨cZ22,h⟩:=cond_s h
             · obtain ⟨yZ23,hyZ23,h⟩:=bind_s h
               obtain ⟨hyZ23a,hyZ23b⟩:=geti_s hyZ23
               obtain ⟨rZ24,hrZ24,h⟩:=bind_s h
               refine ZF (ZA cZ13 (ZA hyZ14a (ZA hyZ14b (ZA cZ15 (ZA cZ16 (ZA cZ17 (ZA cZ19 (ZA cZ21 (ZA cZ22 (ZA hyZ23a hyZ23b)))))))))) ?_
               refine ZS (ZA cZ13 (ZA hyZ14a (ZA hyZ14b (ZA cZ15 (ZA cZ16 (ZA cZ17 (ZA cZ19 (ZA cZ21 (ZA cZ22 (ZA hyZ23a hyZ23b)))))))))) (w_dg _ _ hrZ24) ?_
               refine ZG ?_
               obtain ⟨cZ25,h⟩ | ⟨cZ25,h⟩:=cond_s h
               · cases h
                 exact ZL (ZA cZ13 (ZA hyZ14a (ZA hyZ14b (ZA cZ15 (ZA cZ16 (ZA cZ17 (ZA cZ19 (ZA cZ21 (ZA cZ22 (ZA hyZ23a (ZA hyZ23b cZ25))))))))))) V57.eq_1
               · cases h
                 exact ZL (ZA cZ13 (ZA hyZ14a (ZA hyZ14b (ZA cZ15 (ZA cZ16 (ZA cZ17 (ZA cZ19 (ZA cZ21 (ZA cZ22 (ZA hyZ23a (ZA hyZ23b cZ25))))))))))) (ZA S_l.eq_1 SX_l.eq_1)
             · cases h
               exact ZL (ZA cZ13 (ZA hyZ14a (ZA hyZ14b (ZA cZ15 (ZA cZ16 (ZA cZ17 (ZA cZ19 (ZA cZ21 cZ22)))))))) (ZA S_l.eq_1 SX_l.eq_1)
 · cases h
   exact ZL cZ13 (ZA S_l.eq_1 SX_l.eq_1)
theorem w_dh (nZ0:TNetwork) {r:Bool} (h:M_dh nZ0=some r):Ok Tryz.prog 57 [.agg [.lst .o 1 (nZ0.Nodes.map AV.z),.lst .o 4 (nZ0.Fibers.map (e_TFiber .o))]] ((fun r=>.b r) r):=by
 refine ok_of_body hmix m57 rfl ?_
 unfold M_dh at h
 simp only [ZC,A57,V57,body_eq]
 obtain ⟨oZ9,hoZ9,h⟩:=bind_s h
 try refine ZF trivial ?_
 refine join_rule (o:=oZ9) (blk_rule sideR (loop_rule (w_aj nZ0) hoZ9 ?_)) (fun vZ10 hv=>?_) (fun xZ11 hv e τ hne hq=>?_)
 · exact ZK (ZA S_aj.eq_1 SX_aj.eq_1)
 · subst hv
   simp only [] at h
   simp only [ZC,SX_aj,A57R2]
   obtain ⟨oZ26,hoZ26,h⟩:=bind_s h
   try refine ZF trivial ?_
   refine join_rule (o:=oZ26) (blk_rule sideR (loop_rule (w_l nZ0) hoZ26 ?_)) (fun vZ27 hv=>?_) (fun xZ28 hv e τ hne hq=>?_)
   · exact ZK (ZA S_l.eq_1 SX_l.eq_1)
   · subst hv
     simp only [] at h
     simp only [ZC,SX_l,A57R4]
     obtain ⟨rZ29,hrZ29,h⟩:=bind_s h
     refine ZF trivial ?_
     refine ZS trivial (w_bf _ _ _ hrZ29) ?_
     refine ZG ?_
     obtain ⟨cZ30,h⟩ | ⟨cZ30,h⟩:=cond_s h
     · cases h
       exact ZL cZ30 V57.eq_1
     · cases h
       exact ZL cZ30 V57.eq_1
   · subst hv
     simp only [] at h
     obtain ⟨rfl,qZ31⟩:=hq
     cases h
     exact qZ31
 · subst hv
   simp only [] at h
   obtain ⟨rfl,qZ32⟩:=hq
   cases h
   exact qZ32
theorem w_bl (fZ0:TFiber) (nodeZ0:Int) {r:Int} (h:M_bl fZ0 nodeZ0=some r):Ok Tryz.prog 128 [.agg [.i fZ0.A,.i fZ0.B,.i fZ0.Length,.i fZ0.Risk],.i nodeZ0] ((fun r=>.i r) r):=by
 refine ok_of_body hmix m128 rfl ?_
 unfold M_bl at h
 simp only [ZC,A128,V128,body_eq]
 obtain ⟨cZ1,h⟩ | ⟨cZ1,h⟩:=cond_s h
 · cases h
   exact ZL cZ1 V128.eq_1
 · obtain ⟨cZ2,h⟩ | ⟨cZ2,h⟩:=cond_s h
   · cases h
     exact ZL (ZA cZ1 cZ2) V128.eq_1
   · cases h
     exact ZL (ZA cZ1 cZ2) V128.eq_1
def S_ak (sZ0:List Int) (vZ0:Int) (v:Int):St:=⟨[(0,.lst .o 1 (sZ0.map AV.i)),(1,.i vZ0),(7,.i (sZ0.length:Int)),(8,.i v)],[]⟩
def SX_ak (v:Unit):St:=⟨[],[]⟩
theorem w_ak (sZ0:List Int) (vZ0:Int) (sZ1:Int) (o:Int ⊕ (Unit ⊕ Int)) (h:M_ak sZ0 vZ0 sZ1=some o):AWP (OkS Tryz.prog) A76L1 (qL [0,1,7,8] [] (S_ak sZ0 vZ0) (qS (qX 0 [] [] (SX_ak)) (qR V76 (fun r=>.i r))) o) (S_ak sZ0 vZ0 sZ1):=by
 unfold M_ak at h
 simp only [ZC,S_ak,A76L1]
 obtain ⟨cZ2,h⟩ | ⟨cZ2,h⟩:=cond_s h
 · obtain ⟨yZ3,hyZ3,h⟩:=bind_s h
   obtain ⟨hyZ3a,hyZ3b⟩:=geti_s hyZ3
   obtain ⟨cZ4,h⟩ | ⟨cZ4,h⟩:=cond_s h
   · cases h
     exact ZL (ZA cZ2 (ZA hyZ3a (ZA hyZ3b cZ4))) V76.eq_1
   · cases h
     exact ZL (ZA cZ2 (ZA hyZ3a (ZA hyZ3b cZ4))) (ZA S_ak.eq_1 SX_ak.eq_1)
 · cases h
   exact ZL cZ2 (ZA S_ak.eq_1 SX_ak.eq_1)
theorem w_ed (sZ0:List Int) (vZ0:Int) {r:Int} (h:M_ed sZ0 vZ0=some r):Ok Tryz.prog 76 [.lst .o 1 (sZ0.map AV.i),.i vZ0] ((fun r=>.i r) r):=by
 refine ok_of_body hmix m76 rfl ?_
 unfold M_ed at h
 simp only [ZC,A76,V76,body_eq]
 obtain ⟨oZ5,hoZ5,h⟩:=bind_s h
 try refine ZF trivial ?_
 refine join_rule (o:=oZ5) (blk_rule sideR (loop_rule (w_ak sZ0 vZ0) hoZ5 ?_)) (fun vZ6 hv=>?_) (fun xZ7 hv e τ hne hq=>?_)
 · exact ZK (ZA S_ak.eq_1 SX_ak.eq_1)
 · subst hv
   simp only [] at h
   simp only [ZC,SX_ak,A76R2]
   cases h
   exact ZL trivial V76.eq_1
 · subst hv
   simp only [] at h
   obtain ⟨rfl,qZ8⟩:=hq
   cases h
   exact qZ8
theorem w_ba (sZ0:List Int) (vZ0:Int) {r:Bool} (h:M_ba sZ0 vZ0=some r):Ok Tryz.prog 79 [.lst .o 1 (sZ0.map AV.i),.i vZ0] ((fun r=>.b r) r):=by
 refine ok_of_body hmix m79 rfl ?_
 unfold M_ba at h
 simp only [ZC,A79,V79,body_eq]
 obtain ⟨rZ1,hrZ1,h⟩:=bind_s h
 refine ZF trivial ?_
 refine ZS trivial (w_ed _ _ hrZ1) ?_
 refine ZG ?_
 cases h
 exact ZL trivial V79.eq_1
def S_m (nZ0:TNetwork) (ringZ0:List Int) (v:Int×Int×List Int):St:=⟨[(2,.lst .o 1 (ringZ0.map AV.i)),(3,.pt 3 0 0),(9,.sl 9 0 v.2.2.length),(10,.i v.1),(15,.lst .o 1 (ringZ0.map AV.i)),(16,.i (ringZ0.length:Int)),(17,.i v.2.1)],[(3,.var (.agg [.lst .o 1 (nZ0.Nodes.map AV.z),.lst .o 4 (nZ0.Fibers.map (e_TFiber .o))])),(9,.arr 1 (v.2.2.map AV.i))]⟩
def SX_m (v:Int×List Int):St:=⟨[(9,.sl 9 0 v.2.length),(10,.i v.1)],[(9,.arr 1 (v.2.map AV.i))]⟩
theorem w_m (nZ0:TNetwork) (ringZ0:List Int) (sZ1:Int×Int×List Int) (o:(Int×Int×List Int) ⊕ ((Int×List Int) ⊕ (List Int×Int×Bool))) (h:M_m nZ0 ringZ0 sZ1=some o):AWP (OkS Tryz.prog) A113L2 (qL [2,3,9,10,15,16,17] [3,9] (S_m nZ0 ringZ0) (qS (qX 0 [9,10] [9] (SX_m)) (qR V113 (fun r=>.tup [.lst .u 1 (r.1.map AV.i),.i r.2.1,.b r.2.2]))) o) (S_m nZ0 ringZ0 sZ1):=by
 unfold M_m at h
 simp only [ZC,S_m,A113L2]
 obtain ⟨cZ2,h⟩ | ⟨cZ2,h⟩:=cond_s h
 · obtain ⟨yZ3,hyZ3,h⟩:=bind_s h
   obtain ⟨hyZ3a,hyZ3b⟩:=geti_s hyZ3
   obtain ⟨oZ8,hoZ8,h⟩:=bind_s h
   try refine ZF (ZA cZ2 (ZA hyZ3a hyZ3b)) ?_
   refine join_rule0 (sh:=(fun v=>⟨[(2,.lst .o 1 (ringZ0.map AV.i)),(3,.pt 3 0 0),(9,.sl 9 0 sZ1.2.2.length),(10,.i sZ1.1),(12,.i yZ3),(15,.lst .o 1 (ringZ0.map AV.i)),(16,.i (ringZ0.length:Int)),(17,.i sZ1.2.1),(35,.b v)],[(3,.var (.agg [.lst .o 1 (nZ0.Nodes.map AV.z),.lst .o 4 (nZ0.Fibers.map (e_TFiber .o))])),(9,.arr 1 (sZ1.2.2.map AV.i))]⟩)) (s:=oZ8) ?_ ?_
   · replace h:=hoZ8
     obtain ⟨rZ4,hrZ4,h⟩:=bind_s h
     refine ZF (ZA cZ2 (ZA hyZ3a hyZ3b)) ?_
     refine ZS (ZA cZ2 (ZA hyZ3a hyZ3b)) (w_bf _ _ _ hrZ4) ?_
     refine ZG ?_
     obtain ⟨cZ5,h⟩ | ⟨cZ5,h⟩:=cond_s h
     · cases h
       exact ZL (ZA cZ2 (ZA hyZ3a (ZA hyZ3b cZ5))) trivial
     · obtain ⟨lZ6,hlZ6,h⟩:=bind_s h
       obtain ⟨hlZ6a,hlZ6b,hlZ6c,hlZ6d,hlZ6e⟩:=slT_s AV.i hlZ6
       obtain ⟨rZ7,hrZ7,h⟩:=bind_s h
       refine ZF (ZA cZ2 (ZA hyZ3a (ZA hyZ3b (ZA cZ5 (ZA hlZ6a (ZA hlZ6b (ZA hlZ6c (ZA hlZ6d hlZ6e)))))))) ?_
       refine ZS (ZA cZ2 (ZA hyZ3a (ZA hyZ3b (ZA cZ5 (ZA hlZ6a (ZA hlZ6b (ZA hlZ6c (ZA hlZ6d hlZ6e)))))))) (w_ba _ _ hrZ7) ?_
       refine ZG ?_
       cases h
       exact ZL (ZA cZ2 (ZA hyZ3a (ZA hyZ3b (ZA cZ5 (ZA hlZ6a (ZA hlZ6b (ZA hlZ6c (ZA hlZ6d hlZ6e)))))))) trivial
   · simp only [ZC,A113R1]
     obtain ⟨cZ9,h⟩ | ⟨cZ9,h⟩:=cond_s h
     · cases h
       exact ZL (ZA cZ2 (ZA hyZ3a (ZA hyZ3b cZ9))) V113.eq_1
     · obtain ⟨lZ10,hlZ10,h⟩:=bnd_s h
       have eZ11:Row.arr 1 [(.i sZ1.1:AV)]=Row.arr 1 (lZ10.map AV.i):=by rw [← hlZ10]; rfl
       have jjZ12:lZ10.length=1:=by rw [← hlZ10]; rfl
       obtain ⟨uZ13,huZ13,h⟩:=bind_s h
       have huZ13g:=grd_s huZ13
       obtain ⟨lZ14,hlZ14,h⟩:=bnd_s h
       have eZ15:sZ1.2.2.map AV.i++lZ10.map AV.i=lZ14.map AV.i:=by rw [← hlZ14,List.map_append]
       have eZ16:sZ1.2.2.length+1=lZ14.length:=by simp [← hlZ10,← hlZ14] <;> omega
       rw [eZ16] at huZ13g
       obtain ⟨yZ17,hyZ17,h⟩:=bind_s h
       obtain ⟨hyZ17a,hyZ17b⟩:=geti_s hyZ17
       obtain ⟨rZ18,hrZ18,h⟩:=bind_s h
       refine ZF (ZA cZ2 (ZA hyZ3a (ZA hyZ3b (ZA cZ9 (ZA eZ11 (ZA jjZ12 (ZA huZ13g (ZA eZ15 (ZA eZ16 (ZA hyZ17a hyZ17b)))))))))) ?_
       refine ZS (ZA cZ2 (ZA hyZ3a (ZA hyZ3b (ZA cZ9 (ZA eZ11 (ZA jjZ12 (ZA huZ13g (ZA eZ15 (ZA eZ16 (ZA hyZ17a hyZ17b)))))))))) (w_bl _ _ hrZ18) ?_
       refine ZG ?_
       obtain ⟨cZ19,h⟩ | ⟨cZ19,h⟩:=cond_s h
       · cases h
         exact ZL (ZA cZ2 (ZA hyZ3a (ZA hyZ3b (ZA cZ9 (ZA eZ11 (ZA jjZ12 (ZA huZ13g (ZA eZ15 (ZA eZ16 (ZA hyZ17a (ZA hyZ17b cZ19))))))))))) (ZA V113.eq_1 (ZA hlZ10.symm (ZA hlZ14.symm jjZ12)))
       · cases h
         exact ZL (ZA cZ2 (ZA hyZ3a (ZA hyZ3b (ZA cZ9 (ZA eZ11 (ZA jjZ12 (ZA huZ13g (ZA eZ15 (ZA eZ16 (ZA hyZ17a (ZA hyZ17b cZ19))))))))))) (ZA S_m.eq_1 (ZA SX_m.eq_1 (ZA hlZ10.symm (ZA hlZ14.symm jjZ12))))
 · cases h
   exact ZL cZ2 (ZA S_m.eq_1 SX_m.eq_1)
theorem w_di (nZ0:TNetwork) (startZ0:Int) (ringZ0:List Int) {r:List Int×Int×Bool} (h:M_di nZ0 startZ0 ringZ0=some r):Ok Tryz.prog 113 [.agg [.lst .o 1 (nZ0.Nodes.map AV.z),.lst .o 4 (nZ0.Fibers.map (e_TFiber .o))],.i startZ0,.lst .o 1 (ringZ0.map AV.i)] ((fun r=>.tup [.lst .u 1 (r.1.map AV.i),.i r.2.1,.b r.2.2]) r):=by
 refine ok_of_body hmix m113 rfl ?_
 unfold M_di at h
 simp only [ZC,A113,V113,body_eq]
 obtain ⟨oZ20,hoZ20,h⟩:=bind_s h
 try refine ZF trivial ?_
 refine join_rule (o:=oZ20) (blk_rule sideR (loop_rule (w_m nZ0 ringZ0) hoZ20 ?_)) (fun vZ21 hv=>?_) (fun xZ22 hv e τ hne hq=>?_)
 · exact ZK (ZA S_m.eq_1 SX_m.eq_1)
 · subst hv
   simp only [] at h
   simp only [ZC,SX_m,A113R3]
   cases h
   exact ZL trivial V113.eq_1
 · subst hv
   simp only [] at h
   obtain ⟨rfl,qZ23⟩:=hq
   cases h
   exact qZ23
def S_al (xZ0:List Int) (v:Int×Int):St:=⟨[(0,.lst .o 1 (xZ0.map AV.i)),(3,.i v.1),(4,.i v.2)],[]⟩
def SX_al (v:Int):St:=⟨[(3,.i v)],[]⟩
theorem w_al (xZ0:List Int) (sZ3:Int×Int) (o:(Int×Int) ⊕ Int) (h:M_al xZ0 sZ3=some o):AWP (OkS Tryz.prog) A114L1 (qL [0,3,4] [] (S_al xZ0) (qX 0 [3] [] (SX_al)) o) (S_al xZ0 sZ3):=by
 unfold M_al at h
 simp only [ZC,S_al,A114L1]
 obtain ⟨cZ4,h⟩ | ⟨cZ4,h⟩:=cond_s h
 · obtain ⟨yZ5,hyZ5,h⟩:=bind_s h
   obtain ⟨hyZ5a,hyZ5b⟩:=geti_s hyZ5
   cases h
   exact ZL (ZA cZ4 (ZA hyZ5a hyZ5b)) (ZA S_al.eq_1 SX_al.eq_1)
 · cases h
   exact ZL cZ4 (ZA S_al.eq_1 SX_al.eq_1)
theorem w_dj (xZ0:List Int) {r:Int} (h:M_dj xZ0=some r):Ok Tryz.prog 114 [.lst .o 1 (xZ0.map AV.i)] ((fun r=>.i r) r):=by
 refine ok_of_body hmix m114 rfl ?_
 unfold M_dj at h
 simp only [ZC,A114,V114,body_eq]
 obtain ⟨cZ1,h⟩ | ⟨cZ1,h⟩:=cond_s h
 · cases h
 · obtain ⟨yZ2,hyZ2,h⟩:=bind_s h
   obtain ⟨hyZ2a,hyZ2b⟩:=geti_s hyZ2
   obtain ⟨oZ6,hoZ6,h⟩:=bind_s h
   try refine ZF (ZA cZ1 (ZA hyZ2a hyZ2b)) ?_
   refine join_rule0 (blk_rule0 (loop_rule (w_al xZ0) hoZ6 ?_)) ?_
   · exact ZK (ZA S_al.eq_1 SX_al.eq_1)
   · simp only [ZC,SX_al,A114R2]
     cases h
     exact ZL (ZA cZ1 (ZA hyZ2a hyZ2b)) V114.eq_1
theorem w_bp (sZ0:List Int) {r:List Int} (h:M_bp sZ0=some r):Ok Tryz.prog 55 [.lst .o 1 (sZ0.map AV.i)] ((fun r=>.lst .u 1 (r.map AV.i)) r):=by
 refine ok_of_body hmix m55 rfl ?_
 unfold M_bp at h
 simp only [ZC,A55,V55,body_eq]
 obtain ⟨cZ1,h⟩ | ⟨cZ1,h⟩:=cond_s h
 · refine ZF cZ1 ?_
   refine And.intro ?_ ?_
   · replace h:=amb_l h
     cases h
     exact ZL cZ1 V55.eq_1
   · replace h:=amb_r h
     obtain ⟨uZ2,huZ2,h⟩:=bind_s h
     have huZ2g:=grd_s huZ2
     cases h
     exact ZL (ZA cZ1 huZ2g) V55.eq_1
 · obtain ⟨uZ3,huZ3,h⟩:=bind_s h
   have huZ3g:=grd_s huZ3
   cases h
   exact ZL (ZA cZ1 huZ3g) V55.eq_1
def S_s (v:Int×Int×List Int):St:=⟨[(0,.sl 1000000000 0 v.2.2.length),(2,.i v.1),(3,.i v.2.1)],[(1000000000,.arr 1 (v.2.2.map AV.i))]⟩
def SX_s (v:List Int):St:=⟨[],[(1000000000,.arr 1 (v.map AV.i))]⟩
theorem w_s (sZ1:Int×Int×List Int) (o:(Int×Int×List Int) ⊕ (List Int)) (h:M_s sZ1=some o):AWP (OkS Tryz.prog) A115M1L1 (qL [0,2,3] [1000000000] (S_s) (qX 0 [] [1000000000] (SX_s)) o) (S_s sZ1):=by
 unfold M_s at h
 simp only [ZC,S_s,A115M1L1]
 obtain ⟨cZ2,h⟩ | ⟨cZ2,h⟩:=cond_s h
 · obtain ⟨kZ3,hkZ3,h⟩:=bind_s h
   obtain ⟨hkZ3a,hkZ3b⟩:=grd_s hkZ3
   obtain ⟨yZ4,hyZ4,h⟩:=bind_s h
   obtain ⟨kZ5,hkZ5,h⟩:=bind_s h
   obtain ⟨hkZ5a,hkZ5b⟩:=grd_s hkZ5
   obtain ⟨yZ6,hyZ6,h⟩:=bind_s h
   obtain ⟨lZ7,hlZ7,h⟩:=bnd_s h
   have eZ8:(sZ1.2.2.map AV.i).set (Int.toNat sZ1.1) (.i yZ4)=lZ7.map AV.i:=by rw [← hlZ7,List.map_set]
   obtain ⟨yZ9,hyZ9,h⟩:=bind_s h
   obtain ⟨lZ10,hlZ10,h⟩:=bnd_s h
   have eZ11:(lZ7.map AV.i).set (Int.toNat sZ1.2.1) (.i yZ6)=lZ10.map AV.i:=by rw [← hlZ10,List.map_set]
   cases h
   exact ZL (ZA cZ2 (ZA hkZ3a (ZA hkZ3b (ZA hyZ4 (ZA hkZ5a (ZA hkZ5b (ZA hyZ6 (ZA eZ8 (ZA hyZ9 eZ11))))))))) (ZA S_s.eq_1 (ZA SX_s.eq_1 (ZA hlZ7.symm hlZ10.symm)))
 · cases h
   exact ZL cZ2 (ZA S_s.eq_1 SX_s.eq_1)
theorem w_dk (aaZ0:List Int) {r:List Int} (h:M_dk aaZ0=some r):OkM Tryz.prog 115 [.sl 1000000000 0 aaZ0.length] [(1000000000,.arr 1 (aaZ0.map AV.i))] ((fun (r:List Int)=>.tup []) r) ((fun (r:List Int)=>[(1000000000,.arr 1 (r.map AV.i))]) r):=by
 refine okM_of_body (lr:=[1000000000]) hmix m115M1 rfl rfl ?_
 unfold M_dk at h
 simp only [ZC,A115M1,V115M1]
 obtain ⟨oZ12,hoZ12,h⟩:=bind_s h
 try refine ZF trivial ?_
 first | refine tail_rule0 (blk_rule0 (loop_rule (w_s) hoZ12 ?_)) (fun τ qZ13=>?_) | refine tail_blk0 (loop_rule (w_s) hoZ12 ?_) (fun τ qZ13=>?_)
 · exact ZK (ZA S_s.eq_1 SX_s.eq_1)
 · cases h
   refine finM_shp qZ13 (by decide) ?_ rfl
   exact ZK (ZA V115M1.eq_1 SX_s.eq_1)
def S_n (s1Z0:List Int) (s2Z0:List Int) (v:Int):St:=⟨[(0,.lst .o 1 (s1Z0.map AV.i)),(1,.lst .o 1 (s2Z0.map AV.i)),(9,.lst .o 1 (s1Z0.map AV.i)),(10,.i (s1Z0.length:Int)),(11,.i v)],[]⟩
def SX_n (s1Z0:List Int) (s2Z0:List Int) (v:Unit):St:=⟨[(0,.lst .o 1 (s1Z0.map AV.i)),(1,.lst .o 1 (s2Z0.map AV.i))],[]⟩
theorem w_n (s1Z0:List Int) (s2Z0:List Int) (sZ1:Int) (o:Int ⊕ (Unit ⊕ Int)) (h:M_n s1Z0 s2Z0 sZ1=some o):AWP (OkS Tryz.prog) A116L1 (qL [0,1,9,10,11] [] (S_n s1Z0 s2Z0) (qS (qX 0 [0,1] [] (SX_n s1Z0 s2Z0)) (qR V116 (fun r=>.i r))) o) (S_n s1Z0 s2Z0 sZ1):=by
 unfold M_n at h
 simp only [ZC,S_n,A116L1]
 obtain ⟨cZ2,h⟩ | ⟨cZ2,h⟩:=cond_s h
 · obtain ⟨yZ3,hyZ3,h⟩:=bind_s h
   obtain ⟨hyZ3a,hyZ3b⟩:=geti_s hyZ3
   obtain ⟨cZ4,h⟩ | ⟨cZ4,h⟩:=cond_s h
   · cases h
     exact ZL (ZA cZ2 (ZA hyZ3a (ZA hyZ3b cZ4))) V116.eq_1
   · obtain ⟨yZ5,hyZ5,h⟩:=bind_s h
     obtain ⟨hyZ5a,hyZ5b⟩:=geti_s hyZ5
     obtain ⟨rZ6,hrZ6,h⟩:=bind_s h
     refine ZF (ZA cZ2 (ZA hyZ3a (ZA hyZ3b (ZA cZ4 (ZA hyZ5a hyZ5b))))) ?_
     refine ZS (ZA cZ2 (ZA hyZ3a (ZA hyZ3b (ZA cZ4 (ZA hyZ5a hyZ5b))))) (w_bg _ _ hrZ6) ?_
     refine ZG ?_
     obtain ⟨cZ7,h⟩ | ⟨cZ7,h⟩:=cond_s h
     · cases h
       exact ZL (ZA cZ2 (ZA hyZ3a (ZA hyZ3b (ZA cZ4 (ZA hyZ5a (ZA hyZ5b cZ7)))))) V116.eq_1
     · cases h
       exact ZL (ZA cZ2 (ZA hyZ3a (ZA hyZ3b (ZA cZ4 (ZA hyZ5a (ZA hyZ5b cZ7)))))) (ZA S_n.eq_1 SX_n.eq_1)
 · cases h
   exact ZL cZ2 (ZA S_n.eq_1 SX_n.eq_1)
theorem w_bq (s1Z0:List Int) (s2Z0:List Int) {r:Int} (h:M_bq s1Z0 s2Z0=some r):Ok Tryz.prog 116 [.lst .o 1 (s1Z0.map AV.i),.lst .o 1 (s2Z0.map AV.i)] ((fun r=>.i r) r):=by
 refine ok_of_body hmix m116 rfl ?_
 unfold M_bq at h
 simp only [ZC,A116,V116,body_eq]
 obtain ⟨oZ8,hoZ8,h⟩:=bind_s h
 try refine ZF trivial ?_
 refine join_rule (o:=oZ8) (blk_rule sideR (loop_rule (w_n s1Z0 s2Z0) hoZ8 ?_)) (fun vZ9 hv=>?_) (fun xZ10 hv e τ hne hq=>?_)
 · exact ZK (ZA S_n.eq_1 SX_n.eq_1)
 · subst hv
   simp only [] at h
   simp only [ZC,SX_n,A116R2]
   obtain ⟨cZ11,h⟩ | ⟨cZ11,h⟩:=cond_s h
   · cases h
     exact ZL cZ11 V116.eq_1
   · cases h
     exact ZL cZ11 V116.eq_1
 · subst hv
   simp only [] at h
   obtain ⟨rfl,qZ12⟩:=hq
   cases h
   exact qZ12
def S_t (ringZ0:List Int) (rZ8:List Int×Int×Bool) (v:Int):St:=⟨[(1,.lst .o 1 (ringZ0.map AV.i)),(7,.sl 7 0 rZ8.1.length),(56,.sl 7 0 rZ8.1.length),(57,.i (rZ8.1.length:Int)),(58,.i v)],[(7,.arr 1 (rZ8.1.map AV.i))]⟩
def SX_t (ringZ0:List Int) (rZ8:List Int×Int×Bool) (v:Unit):St:=⟨[(1,.lst .o 1 (ringZ0.map AV.i)),(7,.sl 7 0 rZ8.1.length)],[(7,.arr 1 (rZ8.1.map AV.i))]⟩
theorem w_t (ringZ0:List Int) (rZ8:List Int×Int×Bool) (sZ14:Int) (o:Int ⊕ (Unit ⊕ (List Int×Bool))) (h:M_t rZ8 sZ14=some o):AWP (OkS Tryz.prog) A75L3 (qL [1,7,56,57,58] [7] (S_t ringZ0 rZ8) (qS (qX 0 [1,7] [7] (SX_t ringZ0 rZ8)) (qR V75 (fun r=>.tup [.lst .u 1 (r.1.map AV.i),.b r.2]))) o) (S_t ringZ0 rZ8 sZ14):=by
 unfold M_t at h
 simp only [ZC,S_t,A75L3]
 obtain ⟨cZ15,h⟩ | ⟨cZ15,h⟩:=cond_s h
 · obtain ⟨kZ16,hkZ16,h⟩:=bind_s h
   obtain ⟨hkZ16a,hkZ16b⟩:=grd_s hkZ16
   obtain ⟨yZ17,hyZ17,h⟩:=bind_s h
   obtain ⟨uZ18,huZ18,h⟩:=bind_s h
   obtain ⟨huZ18a,huZ18b,huZ18c,huZ18d⟩:=grd_s huZ18
   obtain ⟨lZ19,hlZ19,h⟩:=bnd_s h
   have eZ20:sub (rZ8.1.map AV.i) 0 (Int.toNat sZ14)=lZ19.map AV.i:=by rw [sub_mapT,hlZ19]
   obtain ⟨rZ21,hrZ21,h⟩:=bind_s h
   refine ZF (ZA cZ15 (ZA hkZ16a (ZA hkZ16b (ZA hyZ17 (ZA huZ18a (ZA huZ18b (ZA huZ18c (ZA huZ18d eZ20)))))))) ?_
   refine ZS (ZA cZ15 (ZA hkZ16a (ZA hkZ16b (ZA hyZ17 (ZA huZ18a (ZA huZ18b (ZA huZ18c (ZA huZ18d eZ20)))))))) (w_ba _ _ hrZ21) ?_
   refine ZG ?_
   obtain ⟨cZ22,h⟩ | ⟨cZ22,h⟩:=cond_s h
   · cases h
     exact ZL (ZA cZ15 (ZA hkZ16a (ZA hkZ16b (ZA hyZ17 (ZA huZ18a (ZA huZ18b (ZA huZ18c (ZA huZ18d (ZA eZ20 cZ22))))))))) V75.eq_1
   · cases h
     exact ZL (ZA cZ15 (ZA hkZ16a (ZA hkZ16b (ZA hyZ17 (ZA huZ18a (ZA huZ18b (ZA huZ18c (ZA huZ18d (ZA eZ20 cZ22))))))))) (ZA S_t.eq_1 SX_t.eq_1)
 · cases h
   exact ZL cZ15 (ZA S_t.eq_1 SX_t.eq_1)
theorem w_br (nZ0:TNetwork) (ringZ0:List Int) {r:List Int×Bool} (h:M_br nZ0 ringZ0=some r):Ok Tryz.prog 75 [.agg [.lst .o 1 (nZ0.Nodes.map AV.z),.lst .o 4 (nZ0.Fibers.map (e_TFiber .o))],.lst .o 1 (ringZ0.map AV.i)] ((fun r=>.tup [.lst .u 1 (r.1.map AV.i),.b r.2]) r):=by
 refine ok_of_body hmix m75 rfl ?_
 unfold M_br at h
 simp only [ZC,A75,V75,body_eq]
 obtain ⟨oZ4,hoZ4,h⟩:=bind_s h
 try refine ZF trivial ?_
 refine join_rule0 (sh:=(fun v=>⟨[(1,.lst .o 1 (ringZ0.map AV.i)),(2,.pt 2 0 0),(26,.b v)],[(2,.var (.agg [.lst .o 1 (nZ0.Nodes.map AV.z),.lst .o 4 (nZ0.Fibers.map (e_TFiber .o))]))]⟩)) (s:=oZ4) ?_ ?_
 · replace h:=hoZ4
   obtain ⟨cZ1,h⟩ | ⟨cZ1,h⟩:=cond_s h
   · cases h
     exact ZL cZ1 trivial
   · obtain ⟨yZ2,hyZ2,h⟩:=bind_s h
     obtain ⟨hyZ2a,hyZ2b⟩:=geti_s hyZ2
     obtain ⟨rZ3,hrZ3,h⟩:=bind_s h
     refine ZF (ZA cZ1 (ZA hyZ2a hyZ2b)) ?_
     refine ZS (ZA cZ1 (ZA hyZ2a hyZ2b)) (w_bf _ _ _ hrZ3) ?_
     refine ZG ?_
     cases h
     exact ZL (ZA cZ1 (ZA hyZ2a hyZ2b)) trivial
 · simp only [ZC,A75R1]
   obtain ⟨cZ5,h⟩ | ⟨cZ5,h⟩:=cond_s h
   · cases h
     exact ZL cZ5 V75.eq_1
   · obtain ⟨yZ6,hyZ6,h⟩:=bind_s h
     obtain ⟨hyZ6a,hyZ6b⟩:=geti_s hyZ6
     obtain ⟨yZ7,hyZ7,h⟩:=bind_s h
     obtain ⟨hyZ7a,hyZ7b⟩:=geti_s hyZ7
     obtain ⟨rZ8,hrZ8,h⟩:=bind_s h
     refine ZF (ZA cZ5 (ZA hyZ6a (ZA hyZ6b (ZA hyZ7a hyZ7b)))) ?_
     refine ZU (ZA cZ5 (ZA hyZ6a (ZA hyZ6b (ZA hyZ7a hyZ7b)))) (w_di _ _ _ hrZ8) ?_
     refine ZG ?_
     obtain ⟨oZ12,hoZ12,h⟩:=bind_s h
     try refine ZF (ZA cZ5 (ZA hyZ6a (ZA hyZ6b (ZA hyZ7a hyZ7b)))) ?_
     refine join_rule0 (sh:=(fun v=>⟨[(1,.lst .o 1 (ringZ0.map AV.i)),(7,.sl 7 0 rZ8.1.length),(55,.b v)],[(7,.arr 1 (rZ8.1.map AV.i))]⟩)) (s:=oZ12) ?_ ?_
     · replace h:=hoZ12
       obtain ⟨cZ9,h⟩ | ⟨cZ9,h⟩:=cond_s h
       · cases h
         exact ZL (ZA cZ5 (ZA hyZ6a (ZA hyZ6b (ZA hyZ7a (ZA hyZ7b cZ9))))) trivial
       · obtain ⟨cZ10,h⟩ | ⟨cZ10,h⟩:=cond_s h
         · cases h
           exact ZL (ZA cZ5 (ZA hyZ6a (ZA hyZ6b (ZA hyZ7a (ZA hyZ7b (ZA cZ9 cZ10)))))) trivial
         · obtain ⟨rZ11,hrZ11,h⟩:=bind_s h
           refine ZF (ZA cZ5 (ZA hyZ6a (ZA hyZ6b (ZA hyZ7a (ZA hyZ7b (ZA cZ9 cZ10)))))) ?_
           refine ZS (ZA cZ5 (ZA hyZ6a (ZA hyZ6b (ZA hyZ7a (ZA hyZ7b (ZA cZ9 cZ10)))))) (w_dj _ hrZ11) ?_
           refine ZG ?_
           cases h
           exact ZL (ZA cZ5 (ZA hyZ6a (ZA hyZ6b (ZA hyZ7a (ZA hyZ7b (ZA cZ9 cZ10)))))) trivial
     · simp only [ZC,A75R2]
       obtain ⟨cZ13,h⟩ | ⟨cZ13,h⟩:=cond_s h
       · cases h
         exact ZL (ZA cZ5 (ZA hyZ6a (ZA hyZ6b (ZA hyZ7a (ZA hyZ7b cZ13))))) V75.eq_1
       · obtain ⟨oZ23,hoZ23,h⟩:=bind_s h
         try refine ZF (ZA cZ5 (ZA hyZ6a (ZA hyZ6b (ZA hyZ7a (ZA hyZ7b cZ13))))) ?_
         refine join_rule (o:=oZ23) (blk_rule sideR (loop_rule (w_t ringZ0 rZ8) hoZ23 ?_)) (fun vZ24 hv=>?_) (fun xZ25 hv e τ hne hq=>?_)
         · exact ZK (ZA S_t.eq_1 SX_t.eq_1)
         · subst hv
           simp only [] at h
           simp only [ZC,SX_t,A75R4]
           obtain ⟨rZ26,hrZ26,h⟩:=bind_s h
           refine ZF (ZA cZ5 (ZA hyZ6a (ZA hyZ6b (ZA hyZ7a (ZA hyZ7b cZ13))))) ?_
           refine ZU (ZA cZ5 (ZA hyZ6a (ZA hyZ6b (ZA hyZ7a (ZA hyZ7b cZ13))))) (w_bp _ hrZ26) ?_
           refine ZG ?_
           obtain ⟨rZ27,hrZ27,h⟩:=bind_s h
           refine ZF (ZA cZ5 (ZA hyZ6a (ZA hyZ6b (ZA hyZ7a (ZA hyZ7b cZ13))))) ?_
           refine ZW (ZA cZ5 (ZA hyZ6a (ZA hyZ6b (ZA hyZ7a (ZA hyZ7b cZ13))))) (w_dk _ hrZ27) (h2:=by first | exact nm_ok [1000000000] rfl (by decide +kernel) | exact nm_ok2 [1000000000] [] rfl (by decide +kernel) ZQ | exact ZQ) (hk:=?_)
           refine ZG ?_
           obtain ⟨lZ28,hlZ28,h⟩:=bnd_s h
           have eZ29:sub (rZ27.map AV.i) 0 rZ26.length=lZ28.map AV.i:=by rw [sub_mapT,hlZ28]
           obtain ⟨rZ30,hrZ30,h⟩:=bind_s h
           refine ZF (ZA cZ5 (ZA hyZ6a (ZA hyZ6b (ZA hyZ7a (ZA hyZ7b (ZA cZ13 eZ29)))))) ?_
           refine ZS (ZA cZ5 (ZA hyZ6a (ZA hyZ6b (ZA hyZ7a (ZA hyZ7b (ZA cZ13 eZ29)))))) (w_bq _ _ hrZ30) ?_
           refine ZG ?_
           cases h
           exact ZL (ZA cZ5 (ZA hyZ6a (ZA hyZ6b (ZA hyZ7a (ZA hyZ7b (ZA cZ13 eZ29)))))) V75.eq_1
         · subst hv
           simp only [] at h
           obtain ⟨rfl,qZ31⟩:=hq
           cases h
           exact qZ31
def S_a (aaZ0:Int) (abZ0:Int) (acZ0:Int) (adZ0:List Int) (aeZ0:TNetwork) (v:Int×TNetwork×List (List Int)):St:=⟨[(0,.i aaZ0),(1,.i abZ0),(2,.i acZ0),(3,.lst .m 1 (adZ0.map AV.i)),(4,.pt 1000000001 0 0),(5,.pt 1000000002 0 0),(6,.pt 1000000004 0 0),(18,.lst .o 4 (((aeZ0).Fibers).map (e_TFiber .o))),(19,.i (((aeZ0).Fibers).length:Int)),(20,.i v.1)],[(470000128,.arr 1 (v.2.2.map (e_Li .u))),(1000000001,.var (.agg [.lst .o 1 (((v.2.1).Nodes).map AV.z),.lst .o 4 (((v.2.1).Fibers).map (e_TFiber .o))])),(1000000002,.var (.sl 470000128 0 v.2.2.length)),(1000000004,.var (.fn 129 [.pt 1000000001 0 0,.pt 1000000002 0 0,.pt 1000000004 0 0]))]⟩
def SX_a (v:TNetwork×List (List Int)):St:=⟨[],[(470000128,.arr 1 (v.2.map (e_Li .u))),(1000000001,.var (.agg [.lst .o 1 (((v.1).Nodes).map AV.z),.lst .o 4 (((v.1).Fibers).map (e_TFiber .o))])),(1000000002,.var (.sl 470000128 0 v.2.length)),(1000000004,.var (.fn 129 [.pt 1000000001 0 0,.pt 1000000002 0 0,.pt 1000000004 0 0]))]⟩
theorem w_a (aaZ0:Int) (abZ0:Int) (acZ0:Int) (adZ0:List Int) (aeZ0:TNetwork) (afZ0:List (List Int)) (rcZ0:Int→Int→Int→List Int→TNetwork→List (List Int)→Option (TNetwork×List (List Int))) (ihZ0:∀ (aaZ0:Int) (abZ0:Int) (acZ0:Int) (adZ0:List Int) (aeZ0:TNetwork) (afZ0:List (List Int)) {r:TNetwork×List (List Int)},rcZ0 aaZ0 abZ0 acZ0 adZ0 aeZ0 afZ0=some r→OkM Tryz.prog 129 [.i aaZ0,.i abZ0,.i acZ0,.sl 1000000000 0 adZ0.length,.pt 1000000001 0 0,.pt 1000000002 0 0,.pt 1000000004 0 0] [(1000000000,.arr 1 (adZ0.map AV.i)),(1000000001,.var (.agg [.lst .o 1 (((aeZ0).Nodes).map AV.z),.lst .o 4 (((aeZ0).Fibers).map (e_TFiber .o))])),(1000000002,.var (.sl 1000000003 0 afZ0.length)),(1000000003,.arr 1 (afZ0.map (e_Li .u))),(1000000004,.var (.fn 129 [.pt 1000000001 0 0,.pt 1000000002 0 0,.pt 1000000004 0 0]))] ((fun (r:TNetwork×List (List Int))=>.tup []) r) ((fun (r:TNetwork×List (List Int))=>[(470000128,.arr 1 (r.2.map (e_Li .u))),(1000000001,.var (.agg [.lst .o 1 (((r.1).Nodes).map AV.z),.lst .o 4 (((r.1).Fibers).map (e_TFiber .o))])),(1000000002,.var (.sl 470000128 0 r.2.length)),(1000000004,.var (.fn 129 [.pt 1000000001 0 0,.pt 1000000002 0 0,.pt 1000000004 0 0]))]) r)) (sZ1:Int×TNetwork×List (List Int)) (o:(Int×TNetwork×List (List Int)) ⊕ (TNetwork×List (List Int))) (h:M_a aaZ0 abZ0 acZ0 adZ0 aeZ0 rcZ0 sZ1=some o):AWP (OkS Tryz.prog) A129M2L2 (qL [0,1,2,3,4,5,6,18,19,20] [470000128,1000000001,1000000002,1000000004] (S_a aaZ0 abZ0 acZ0 adZ0 aeZ0) (qX 0 [] [470000128,1000000001,1000000002,1000000004] (SX_a)) o) (S_a aaZ0 abZ0 acZ0 adZ0 aeZ0 sZ1):=by
 unfold M_a at h
 simp only [ZC,S_a,A129M2L2]
 obtain ⟨cZ2,h⟩ | ⟨cZ2,h⟩:=cond_s h
 · obtain ⟨yZ3,hyZ3,h⟩:=bind_s h
   obtain ⟨hyZ3a,hyZ3b⟩:=geti_s hyZ3
   obtain ⟨rZ4,hrZ4,h⟩:=bind_s h
   refine ZF (ZA cZ2 (ZA hyZ3a hyZ3b)) ?_
   refine ZS (ZA cZ2 (ZA hyZ3a hyZ3b)) (w_bl _ _ hrZ4) ?_
   refine ZG ?_
   obtain ⟨oZ7,hoZ7,h⟩:=bind_s h
   try refine ZF (ZA cZ2 (ZA hyZ3a hyZ3b)) ?_
   refine join_rule0 (sh:=(fun v=>⟨[(0,.i aaZ0),(1,.i abZ0),(2,.i acZ0),(3,.lst .m 1 (adZ0.map AV.i)),(4,.pt 1000000001 0 0),(5,.pt 1000000002 0 0),(6,.pt 1000000004 0 0),(11,.i sZ1.1),(13,.i rZ4),(18,.lst .o 4 (((aeZ0).Fibers).map (e_TFiber .o))),(19,.i (((aeZ0).Fibers).length:Int)),(20,.i sZ1.1),(35,.b v)],[(470000128,.arr 1 (sZ1.2.2.map (e_Li .u))),(1000000001,.var (.agg [.lst .o 1 (((sZ1.2.1).Nodes).map AV.z),.lst .o 4 (((sZ1.2.1).Fibers).map (e_TFiber .o))])),(1000000002,.var (.sl 470000128 0 sZ1.2.2.length)),(1000000004,.var (.fn 129 [.pt 1000000001 0 0,.pt 1000000002 0 0,.pt 1000000004 0 0]))]⟩)) (s:=oZ7) ?_ ?_
   · replace h:=hoZ7
     obtain ⟨cZ5,h⟩ | ⟨cZ5,h⟩:=cond_s h
     · cases h
       exact ZL (ZA cZ2 (ZA hyZ3a (ZA hyZ3b cZ5))) trivial
     · obtain ⟨rZ6,hrZ6,h⟩:=bind_s h
       refine ZF (ZA cZ2 (ZA hyZ3a (ZA hyZ3b cZ5))) ?_
       refine ZS (ZA cZ2 (ZA hyZ3a (ZA hyZ3b cZ5))) (w_ba _ _ hrZ6) ?_
       refine ZG ?_
       cases h
       exact ZL (ZA cZ2 (ZA hyZ3a (ZA hyZ3b cZ5))) trivial
   · simp only [ZC,A129M2R1]
     obtain ⟨cZ8,h⟩ | ⟨cZ8,h⟩:=cond_s h
     · cases h
       exact ZL (ZA cZ2 (ZA hyZ3a (ZA hyZ3b cZ8))) (ZA S_a.eq_1 SX_a.eq_1)
     · have jjZ9:(0:Int)≤(adZ0.length:Int):=Int.natCast_nonneg _
       obtain ⟨lZ10,hlZ10,h⟩:=bnd_s h
       have eZ11:Row.arr 1 [(.i sZ1.1:AV)]=Row.arr 1 (lZ10.map AV.i):=by rw [← hlZ10]; rfl
       have jjZ12:lZ10.length=1:=by rw [← hlZ10]; rfl
       obtain ⟨uZ13,huZ13,h⟩:=bind_s h
       have huZ13g:=grd_s huZ13
       obtain ⟨lZ14,hlZ14,h⟩:=bnd_s h
       have eZ15:adZ0.map AV.i++lZ10.map AV.i=lZ14.map AV.i:=by rw [← hlZ14,List.map_append]
       have eZ16:adZ0.length+1=lZ14.length:=by simp [← hlZ10,← hlZ14] <;> omega
       rw [eZ16] at huZ13g
       have jjZ17:(0:Nat) < 1:=by decide
       obtain ⟨cZ18,h⟩ | ⟨cZ18,h⟩:=cond_s h
       · obtain ⟨rZ19,hrZ19,h⟩:=bind_s h
         refine ZF (ZA cZ2 (ZA hyZ3a (ZA hyZ3b (ZA cZ8 (ZA jjZ9 (ZA eZ11 (ZA jjZ12 (ZA huZ13g (ZA eZ15 (ZA eZ16 (ZA jjZ17 cZ18))))))))))) ?_
         refine ZU (ZA cZ2 (ZA hyZ3a (ZA hyZ3b (ZA cZ8 (ZA jjZ9 (ZA eZ11 (ZA jjZ12 (ZA huZ13g (ZA eZ15 (ZA eZ16 (ZA jjZ17 cZ18))))))))))) (w_br _ _ hrZ19) ?_
         refine ZG ?_
         obtain ⟨cZ20,h⟩ | ⟨cZ20,h⟩:=cond_s h
         · obtain ⟨lZ21,hlZ21,h⟩:=bnd_s h
           have eZ22:Row.arr 1 [(.lst .u 1 (lZ14.map AV.i):AV)]=Row.arr 1 (lZ21.map (e_Li .u)):=by rw [← hlZ21]; rfl
           have jjZ23:lZ21.length=1:=by rw [← hlZ21]; rfl
           obtain ⟨uZ24,huZ24,h⟩:=bind_s h
           have huZ24g:=grd_s huZ24
           obtain ⟨lZ25,hlZ25,h⟩:=bnd_s h
           have eZ26:sZ1.2.2.map (e_Li .u)++lZ21.map (e_Li .u)=lZ25.map (e_Li .u):=by rw [← hlZ25,List.map_append]
           have eZ27:sZ1.2.2.length+1=lZ25.length:=by simp [← hlZ10,← hlZ14,← hlZ21,← hlZ25] <;> omega
           rw [eZ27] at huZ24g
           cases h
           exact ZL (ZA cZ2 (ZA hyZ3a (ZA hyZ3b (ZA cZ8 (ZA jjZ9 (ZA eZ11 (ZA jjZ12 (ZA huZ13g (ZA eZ15 (ZA eZ16 (ZA jjZ17 (ZA cZ18 (ZA cZ20 (ZA eZ22 (ZA jjZ23 (ZA huZ24g (ZA eZ26 eZ27))))))))))))))))) (ZA S_a.eq_1 (ZA SX_a.eq_1 (ZA hlZ10.symm (ZA hlZ14.symm (ZA hlZ21.symm (ZA hlZ25.symm (ZA jjZ9 (ZA jjZ12 (ZA jjZ17 jjZ23)))))))))
         · cases h
           exact ZL (ZA cZ2 (ZA hyZ3a (ZA hyZ3b (ZA cZ8 (ZA jjZ9 (ZA eZ11 (ZA jjZ12 (ZA huZ13g (ZA eZ15 (ZA eZ16 (ZA jjZ17 (ZA cZ18 cZ20)))))))))))) (ZA S_a.eq_1 (ZA SX_a.eq_1 (ZA hlZ10.symm (ZA hlZ14.symm (ZA jjZ9 (ZA jjZ12 jjZ17))))))
       · obtain ⟨uZ28,huZ28,h⟩:=bind_s h
         have huZ28g:=grd_s huZ28
         obtain ⟨cZ29,h⟩ | ⟨cZ29,h⟩:=cond_s h
         · obtain ⟨uZ30,huZ30,h⟩:=bind_s h
           have huZ30g:=grd_s huZ30
           obtain ⟨rZ31,hrZ31,h⟩:=bind_s h
           refine ZF (ZA cZ2 (ZA hyZ3a (ZA hyZ3b (ZA cZ8 (ZA jjZ9 (ZA eZ11 (ZA jjZ12 (ZA huZ13g (ZA eZ15 (ZA eZ16 (ZA jjZ17 (ZA cZ18 (ZA huZ28g (ZA cZ29 huZ30g)))))))))))))) ?_
           refine ZW (ZA cZ2 (ZA hyZ3a (ZA hyZ3b (ZA cZ8 (ZA jjZ9 (ZA eZ11 (ZA jjZ12 (ZA huZ13g (ZA eZ15 (ZA eZ16 (ZA jjZ17 (ZA cZ18 (ZA huZ28g (ZA cZ29 huZ30g)))))))))))))) (ihZ0 _ _ _ _ _ _ hrZ31) (h2:=by first | exact nm_ok [470000128,1000000001,1000000002,1000000004] rfl (by decide +kernel) | exact nm_ok2 [470000128,1000000001,1000000002,1000000004] [477300128] rfl (by decide +kernel) ZQ | exact ZQ) (hk:=?_)
           refine ZG ?_
           cases h
           exact ZL (ZA cZ2 (ZA hyZ3a (ZA hyZ3b (ZA cZ8 (ZA jjZ9 (ZA eZ11 (ZA jjZ12 (ZA huZ13g (ZA eZ15 (ZA eZ16 (ZA jjZ17 (ZA cZ18 (ZA huZ28g (ZA cZ29 huZ30g)))))))))))))) (ZA S_a.eq_1 (ZA SX_a.eq_1 (ZA hlZ10.symm (ZA hlZ14.symm (ZA jjZ9 (ZA jjZ12 jjZ17))))))
         · cases h
           exact ZL (ZA cZ2 (ZA hyZ3a (ZA hyZ3b (ZA cZ8 (ZA jjZ9 (ZA eZ11 (ZA jjZ12 (ZA huZ13g (ZA eZ15 (ZA eZ16 (ZA jjZ17 (ZA cZ18 (ZA huZ28g cZ29))))))))))))) (ZA S_a.eq_1 (ZA SX_a.eq_1 (ZA hlZ10.symm (ZA hlZ14.symm (ZA jjZ9 (ZA jjZ12 jjZ17))))))
 · cases h
   exact ZL cZ2 (ZA S_a.eq_1 SX_a.eq_1)
theorem wB_bx (rcZ0:Int→Int→Int→List Int→TNetwork→List (List Int)→Option (TNetwork×List (List Int))) (ihZ0:∀ (aaZ0:Int) (abZ0:Int) (acZ0:Int) (adZ0:List Int) (aeZ0:TNetwork) (afZ0:List (List Int)) {r:TNetwork×List (List Int)},rcZ0 aaZ0 abZ0 acZ0 adZ0 aeZ0 afZ0=some r→OkM Tryz.prog 129 [.i aaZ0,.i abZ0,.i acZ0,.sl 1000000000 0 adZ0.length,.pt 1000000001 0 0,.pt 1000000002 0 0,.pt 1000000004 0 0] [(1000000000,.arr 1 (adZ0.map AV.i)),(1000000001,.var (.agg [.lst .o 1 (((aeZ0).Nodes).map AV.z),.lst .o 4 (((aeZ0).Fibers).map (e_TFiber .o))])),(1000000002,.var (.sl 1000000003 0 afZ0.length)),(1000000003,.arr 1 (afZ0.map (e_Li .u))),(1000000004,.var (.fn 129 [.pt 1000000001 0 0,.pt 1000000002 0 0,.pt 1000000004 0 0]))] ((fun (r:TNetwork×List (List Int))=>.tup []) r) ((fun (r:TNetwork×List (List Int))=>[(470000128,.arr 1 (r.2.map (e_Li .u))),(1000000001,.var (.agg [.lst .o 1 (((r.1).Nodes).map AV.z),.lst .o 4 (((r.1).Fibers).map (e_TFiber .o))])),(1000000002,.var (.sl 470000128 0 r.2.length)),(1000000004,.var (.fn 129 [.pt 1000000001 0 0,.pt 1000000002 0 0,.pt 1000000004 0 0]))]) r)) (aaZ0:Int) (abZ0:Int) (acZ0:Int) (adZ0:List Int) (aeZ0:TNetwork) (afZ0:List (List Int)) {r:TNetwork×List (List Int)} (h:M_dl rcZ0 aaZ0 abZ0 acZ0 adZ0 aeZ0 afZ0=some r):OkM Tryz.prog 129 [.i aaZ0,.i abZ0,.i acZ0,.sl 1000000000 0 adZ0.length,.pt 1000000001 0 0,.pt 1000000002 0 0,.pt 1000000004 0 0] [(1000000000,.arr 1 (adZ0.map AV.i)),(1000000001,.var (.agg [.lst .o 1 (((aeZ0).Nodes).map AV.z),.lst .o 4 (((aeZ0).Fibers).map (e_TFiber .o))])),(1000000002,.var (.sl 1000000003 0 afZ0.length)),(1000000003,.arr 1 (afZ0.map (e_Li .u))),(1000000004,.var (.fn 129 [.pt 1000000001 0 0,.pt 1000000002 0 0,.pt 1000000004 0 0]))] ((fun (r:TNetwork×List (List Int))=>.tup []) r) ((fun (r:TNetwork×List (List Int))=>[(470000128,.arr 1 (r.2.map (e_Li .u))),(1000000001,.var (.agg [.lst .o 1 (((r.1).Nodes).map AV.z),.lst .o 4 (((r.1).Fibers).map (e_TFiber .o))])),(1000000002,.var (.sl 470000128 0 r.2.length)),(1000000004,.var (.fn 129 [.pt 1000000001 0 0,.pt 1000000002 0 0,.pt 1000000004 0 0]))]) r):=by
 refine okM_of_body (lr:=[470000128,1000000001,1000000002,1000000004]) hmix m129M2 rfl rfl ?_
 unfold M_dl at h
 simp only [ZC,A129M2,V129M2]
 obtain ⟨oZ32,hoZ32,h⟩:=bind_s h
 try refine ZF trivial ?_
 first | refine tail_rule0 (blk_rule0 (loop_rule (w_a aaZ0 abZ0 acZ0 adZ0 aeZ0 afZ0 rcZ0 ihZ0) hoZ32 ?_)) (fun τ qZ33=>?_) | refine tail_blk0 (loop_rule (w_a aaZ0 abZ0 acZ0 adZ0 aeZ0 afZ0 rcZ0 ihZ0) hoZ32 ?_) (fun τ qZ33=>?_)
 · exact ZK (ZA S_a.eq_1 SX_a.eq_1)
 · cases h
   refine finM_shp qZ33 (by decide) ?_ rfl
   exact ZK (ZA V129M2.eq_1 SX_a.eq_1)
theorem w_bx:∀ (n:Nat) (aaZ0:Int) (abZ0:Int) (acZ0:Int) (adZ0:List Int) (aeZ0:TNetwork) (afZ0:List (List Int)) {r:TNetwork×List (List Int)} (_:M_bx n aaZ0 abZ0 acZ0 adZ0 aeZ0 afZ0=some r),OkM Tryz.prog 129 [.i aaZ0,.i abZ0,.i acZ0,.sl 1000000000 0 adZ0.length,.pt 1000000001 0 0,.pt 1000000002 0 0,.pt 1000000004 0 0] [(1000000000,.arr 1 (adZ0.map AV.i)),(1000000001,.var (.agg [.lst .o 1 (((aeZ0).Nodes).map AV.z),.lst .o 4 (((aeZ0).Fibers).map (e_TFiber .o))])),(1000000002,.var (.sl 1000000003 0 afZ0.length)),(1000000003,.arr 1 (afZ0.map (e_Li .u))),(1000000004,.var (.fn 129 [.pt 1000000001 0 0,.pt 1000000002 0 0,.pt 1000000004 0 0]))] ((fun (r:TNetwork×List (List Int))=>.tup []) r) ((fun (r:TNetwork×List (List Int))=>[(470000128,.arr 1 (r.2.map (e_Li .u))),(1000000001,.var (.agg [.lst .o 1 (((r.1).Nodes).map AV.z),.lst .o 4 (((r.1).Fibers).map (e_TFiber .o))])),(1000000002,.var (.sl 470000128 0 r.2.length)),(1000000004,.var (.fn 129 [.pt 1000000001 0 0,.pt 1000000002 0 0,.pt 1000000004 0 0]))]) r)
 | 0,aaZ0,abZ0,acZ0,adZ0,aeZ0,afZ0,_,h=>by cases h
 | n+1,aaZ0,abZ0,acZ0,adZ0,aeZ0,afZ0,_,h=>wB_bx (M_bx n) (w_bx n) aaZ0 abZ0 acZ0 adZ0 aeZ0 afZ0 h
def S_c (aaZ0:Int) (abZ0:Int) (acZ0:Int) (adZ0:List Int) (aeZ0:TNetwork) (v:Int×TNetwork×List (List Int)):St:=⟨[(0,.i aaZ0),(1,.i abZ0),(2,.i acZ0),(3,.lst .u 1 (adZ0.map AV.i)),(4,.pt 1000000000 0 0),(5,.pt 1000000001 0 0),(6,.pt 1000000003 0 0),(18,.lst .o 4 (((aeZ0).Fibers).map (e_TFiber .o))),(19,.i (((aeZ0).Fibers).length:Int)),(20,.i v.1)],[(470000064,.arr 1 (v.2.2.map (e_Li .u))),(1000000000,.var (.agg [.lst .o 1 (((v.2.1).Nodes).map AV.z),.lst .o 4 (((v.2.1).Fibers).map (e_TFiber .o))])),(1000000001,.var (.sl 470000064 0 v.2.2.length)),(1000000003,.var (.fn 129 [.pt 1000000000 0 0,.pt 1000000001 0 0,.pt 1000000003 0 0]))]⟩
def SX_c (v:TNetwork×List (List Int)):St:=⟨[],[(470000064,.arr 1 (v.2.map (e_Li .u))),(1000000000,.var (.agg [.lst .o 1 (((v.1).Nodes).map AV.z),.lst .o 4 (((v.1).Fibers).map (e_TFiber .o))])),(1000000001,.var (.sl 470000064 0 v.2.length)),(1000000003,.var (.fn 129 [.pt 1000000000 0 0,.pt 1000000001 0 0,.pt 1000000003 0 0]))]⟩
theorem w_c (aaZ0:Int) (abZ0:Int) (acZ0:Int) (adZ0:List Int) (aeZ0:TNetwork) (sZ1:Int×TNetwork×List (List Int)) (o:(Int×TNetwork×List (List Int)) ⊕ (TNetwork×List (List Int))) (h:M_c aaZ0 abZ0 acZ0 adZ0 aeZ0 sZ1=some o):AWP (OkS Tryz.prog) A129M1L2 (qL [0,1,2,3,4,5,6,18,19,20] [470000064,1000000000,1000000001,1000000003] (S_c aaZ0 abZ0 acZ0 adZ0 aeZ0) (qX 0 [] [470000064,1000000000,1000000001,1000000003] (SX_c)) o) (S_c aaZ0 abZ0 acZ0 adZ0 aeZ0 sZ1):=by
 unfold M_c at h
 simp only [ZC,S_c,A129M1L2]
 obtain ⟨cZ2,h⟩ | ⟨cZ2,h⟩:=cond_s h
 · obtain ⟨yZ3,hyZ3,h⟩:=bind_s h
   obtain ⟨hyZ3a,hyZ3b⟩:=geti_s hyZ3
   obtain ⟨rZ4,hrZ4,h⟩:=bind_s h
   refine ZF (ZA cZ2 (ZA hyZ3a hyZ3b)) ?_
   refine ZS (ZA cZ2 (ZA hyZ3a hyZ3b)) (w_bl _ _ hrZ4) ?_
   refine ZG ?_
   obtain ⟨oZ7,hoZ7,h⟩:=bind_s h
   try refine ZF (ZA cZ2 (ZA hyZ3a hyZ3b)) ?_
   refine join_rule0 (sh:=(fun v=>⟨[(0,.i aaZ0),(1,.i abZ0),(2,.i acZ0),(3,.lst .u 1 (adZ0.map AV.i)),(4,.pt 1000000000 0 0),(5,.pt 1000000001 0 0),(6,.pt 1000000003 0 0),(11,.i sZ1.1),(13,.i rZ4),(18,.lst .o 4 (((aeZ0).Fibers).map (e_TFiber .o))),(19,.i (((aeZ0).Fibers).length:Int)),(20,.i sZ1.1),(35,.b v)],[(470000064,.arr 1 (sZ1.2.2.map (e_Li .u))),(1000000000,.var (.agg [.lst .o 1 (((sZ1.2.1).Nodes).map AV.z),.lst .o 4 (((sZ1.2.1).Fibers).map (e_TFiber .o))])),(1000000001,.var (.sl 470000064 0 sZ1.2.2.length)),(1000000003,.var (.fn 129 [.pt 1000000000 0 0,.pt 1000000001 0 0,.pt 1000000003 0 0]))]⟩)) (s:=oZ7) ?_ ?_
   · replace h:=hoZ7
     obtain ⟨cZ5,h⟩ | ⟨cZ5,h⟩:=cond_s h
     · cases h
       exact ZL (ZA cZ2 (ZA hyZ3a (ZA hyZ3b cZ5))) trivial
     · obtain ⟨rZ6,hrZ6,h⟩:=bind_s h
       refine ZF (ZA cZ2 (ZA hyZ3a (ZA hyZ3b cZ5))) ?_
       refine ZS (ZA cZ2 (ZA hyZ3a (ZA hyZ3b cZ5))) (w_ba _ _ hrZ6) ?_
       refine ZG ?_
       cases h
       exact ZL (ZA cZ2 (ZA hyZ3a (ZA hyZ3b cZ5))) trivial
   · simp only [ZC,A129M1R1]
     obtain ⟨cZ8,h⟩ | ⟨cZ8,h⟩:=cond_s h
     · cases h
       exact ZL (ZA cZ2 (ZA hyZ3a (ZA hyZ3b cZ8))) (ZA S_c.eq_1 SX_c.eq_1)
     · have jjZ9:(0:Int)≤(adZ0.length:Int):=Int.natCast_nonneg _
       obtain ⟨lZ10,hlZ10,h⟩:=bnd_s h
       have eZ11:Row.arr 1 [(.i sZ1.1:AV)]=Row.arr 1 (lZ10.map AV.i):=by rw [← hlZ10]; rfl
       have jjZ12:lZ10.length=1:=by rw [← hlZ10]; rfl
       obtain ⟨uZ13,huZ13,h⟩:=bind_s h
       have huZ13g:=grd_s huZ13
       obtain ⟨lZ14,hlZ14,h⟩:=bnd_s h
       have eZ15:adZ0.map AV.i++lZ10.map AV.i=lZ14.map AV.i:=by rw [← hlZ14,List.map_append]
       have eZ16:adZ0.length+1=lZ14.length:=by simp [← hlZ10,← hlZ14] <;> omega
       rw [eZ16] at huZ13g
       have jjZ17:(0:Nat) < 1:=by decide
       obtain ⟨cZ18,h⟩ | ⟨cZ18,h⟩:=cond_s h
       · obtain ⟨rZ19,hrZ19,h⟩:=bind_s h
         refine ZF (ZA cZ2 (ZA hyZ3a (ZA hyZ3b (ZA cZ8 (ZA jjZ9 (ZA eZ11 (ZA jjZ12 (ZA huZ13g (ZA eZ15 (ZA eZ16 (ZA jjZ17 cZ18))))))))))) ?_
         refine ZU (ZA cZ2 (ZA hyZ3a (ZA hyZ3b (ZA cZ8 (ZA jjZ9 (ZA eZ11 (ZA jjZ12 (ZA huZ13g (ZA eZ15 (ZA eZ16 (ZA jjZ17 cZ18))))))))))) (w_br _ _ hrZ19) ?_
         refine ZG ?_
         obtain ⟨cZ20,h⟩ | ⟨cZ20,h⟩:=cond_s h
         · obtain ⟨lZ21,hlZ21,h⟩:=bnd_s h
           have eZ22:Row.arr 1 [(.lst .u 1 (lZ14.map AV.i):AV)]=Row.arr 1 (lZ21.map (e_Li .u)):=by rw [← hlZ21]; rfl
           have jjZ23:lZ21.length=1:=by rw [← hlZ21]; rfl
           obtain ⟨uZ24,huZ24,h⟩:=bind_s h
           have huZ24g:=grd_s huZ24
           obtain ⟨lZ25,hlZ25,h⟩:=bnd_s h
           have eZ26:sZ1.2.2.map (e_Li .u)++lZ21.map (e_Li .u)=lZ25.map (e_Li .u):=by rw [← hlZ25,List.map_append]
           have eZ27:sZ1.2.2.length+1=lZ25.length:=by simp [← hlZ10,← hlZ14,← hlZ21,← hlZ25] <;> omega
           rw [eZ27] at huZ24g
           cases h
           exact ZL (ZA cZ2 (ZA hyZ3a (ZA hyZ3b (ZA cZ8 (ZA jjZ9 (ZA eZ11 (ZA jjZ12 (ZA huZ13g (ZA eZ15 (ZA eZ16 (ZA jjZ17 (ZA cZ18 (ZA cZ20 (ZA eZ22 (ZA jjZ23 (ZA huZ24g (ZA eZ26 eZ27))))))))))))))))) (ZA S_c.eq_1 (ZA SX_c.eq_1 (ZA hlZ10.symm (ZA hlZ14.symm (ZA hlZ21.symm (ZA hlZ25.symm (ZA jjZ9 (ZA jjZ12 (ZA jjZ17 jjZ23)))))))))
         · cases h
           exact ZL (ZA cZ2 (ZA hyZ3a (ZA hyZ3b (ZA cZ8 (ZA jjZ9 (ZA eZ11 (ZA jjZ12 (ZA huZ13g (ZA eZ15 (ZA eZ16 (ZA jjZ17 (ZA cZ18 cZ20)))))))))))) (ZA S_c.eq_1 (ZA SX_c.eq_1 (ZA hlZ10.symm (ZA hlZ14.symm (ZA jjZ9 (ZA jjZ12 jjZ17))))))
       · obtain ⟨uZ28,huZ28,h⟩:=bind_s h
         have huZ28g:=grd_s huZ28
         obtain ⟨cZ29,h⟩ | ⟨cZ29,h⟩:=cond_s h
         · obtain ⟨uZ30,huZ30,h⟩:=bind_s h
           have huZ30g:=grd_s huZ30
           obtain ⟨rZ31,hrZ31,h⟩:=bind_s h
           refine ZF (ZA cZ2 (ZA hyZ3a (ZA hyZ3b (ZA cZ8 (ZA jjZ9 (ZA eZ11 (ZA jjZ12 (ZA huZ13g (ZA eZ15 (ZA eZ16 (ZA jjZ17 (ZA cZ18 (ZA huZ28g (ZA cZ29 huZ30g)))))))))))))) ?_
           refine ZW (ZA cZ2 (ZA hyZ3a (ZA hyZ3b (ZA cZ8 (ZA jjZ9 (ZA eZ11 (ZA jjZ12 (ZA huZ13g (ZA eZ15 (ZA eZ16 (ZA jjZ17 (ZA cZ18 (ZA huZ28g (ZA cZ29 huZ30g)))))))))))))) (w_bx N0 _ _ _ _ _ _ hrZ31) (h2:=by first | exact nm_ok [470000128,1000000001,1000000002,1000000004] rfl (by decide +kernel) | exact nm_ok2 [470000128,1000000001,1000000002,1000000004] [477300128] rfl (by decide +kernel) ZQ | exact ZQ) (hk:=?_)
           refine ZG ?_
           cases h
           exact ZL (ZA cZ2 (ZA hyZ3a (ZA hyZ3b (ZA cZ8 (ZA jjZ9 (ZA eZ11 (ZA jjZ12 (ZA huZ13g (ZA eZ15 (ZA eZ16 (ZA jjZ17 (ZA cZ18 (ZA huZ28g (ZA cZ29 huZ30g)))))))))))))) (ZA S_c.eq_1 (ZA SX_c.eq_1 (ZA hlZ10.symm (ZA hlZ14.symm (ZA jjZ9 (ZA jjZ12 jjZ17))))))
         · cases h
           exact ZL (ZA cZ2 (ZA hyZ3a (ZA hyZ3b (ZA cZ8 (ZA jjZ9 (ZA eZ11 (ZA jjZ12 (ZA huZ13g (ZA eZ15 (ZA eZ16 (ZA jjZ17 (ZA cZ18 (ZA huZ28g cZ29))))))))))))) (ZA S_c.eq_1 (ZA SX_c.eq_1 (ZA hlZ10.symm (ZA hlZ14.symm (ZA jjZ9 (ZA jjZ12 jjZ17))))))
 · cases h
   exact ZL cZ2 (ZA S_c.eq_1 SX_c.eq_1)
theorem w_ee (aaZ0:Int) (abZ0:Int) (acZ0:Int) (adZ0:List Int) (aeZ0:TNetwork) (afZ0:List (List Int)) {r:TNetwork×List (List Int)} (h:M_ee aaZ0 abZ0 acZ0 adZ0 aeZ0 afZ0=some r):OkM Tryz.prog 129 [.i aaZ0,.i abZ0,.i acZ0,.lst .u 1 (adZ0.map AV.i),.pt 1000000000 0 0,.pt 1000000001 0 0,.pt 1000000003 0 0] [(1000000000,.var (.agg [.lst .o 1 (((aeZ0).Nodes).map AV.z),.lst .o 4 (((aeZ0).Fibers).map (e_TFiber .o))])),(1000000001,.var (.sl 1000000002 0 afZ0.length)),(1000000002,.arr 1 (afZ0.map (e_Li .u))),(1000000003,.var (.fn 129 [.pt 1000000000 0 0,.pt 1000000001 0 0,.pt 1000000003 0 0]))] ((fun (r:TNetwork×List (List Int))=>.tup []) r) ((fun (r:TNetwork×List (List Int))=>[(470000064,.arr 1 (r.2.map (e_Li .u))),(1000000000,.var (.agg [.lst .o 1 (((r.1).Nodes).map AV.z),.lst .o 4 (((r.1).Fibers).map (e_TFiber .o))])),(1000000001,.var (.sl 470000064 0 r.2.length)),(1000000003,.var (.fn 129 [.pt 1000000000 0 0,.pt 1000000001 0 0,.pt 1000000003 0 0]))]) r):=by
 refine okM_of_body (lr:=[470000064,1000000000,1000000001,1000000003]) hmix m129M1 rfl rfl ?_
 unfold M_ee at h
 simp only [ZC,A129M1,V129M1]
 obtain ⟨oZ32,hoZ32,h⟩:=bind_s h
 try refine ZF trivial ?_
 first | refine tail_rule0 (blk_rule0 (loop_rule (w_c aaZ0 abZ0 acZ0 adZ0 aeZ0) hoZ32 ?_)) (fun τ qZ33=>?_) | refine tail_blk0 (loop_rule (w_c aaZ0 abZ0 acZ0 adZ0 aeZ0) hoZ32 ?_) (fun τ qZ33=>?_)
 · exact ZK (ZA S_c.eq_1 SX_c.eq_1)
 · cases h
   refine finM_shp qZ33 (by decide) ?_ rfl
   exact ZK (ZA V129M1.eq_1 SX_c.eq_1)
theorem w_bs (aZ0:List Int) (bZ0:List Int) {r:Int} (h:M_bs aZ0 bZ0=some r):Ok Tryz.prog 131 [.lst .o 1 (aZ0.map AV.i),.lst .o 1 (bZ0.map AV.i)] ((fun r=>.i r) r):=by
 refine ok_of_body hmix m131 rfl ?_
 unfold M_bs at h
 simp only [ZC,A131,V131,body_eq]
 obtain ⟨rZ1,hrZ1,h⟩:=bind_s h
 refine ZF trivial ?_
 refine ZS trivial (w_bg _ _ hrZ1) ?_
 refine ZG ?_
 obtain ⟨rZ2,hrZ2,h⟩:=bind_s h
 refine ZF trivial ?_
 refine ZS trivial (w_bq _ _ hrZ2) ?_
 refine ZG ?_
 obtain ⟨lZ3,hlZ3,h⟩:=bnd_s h
 have eZ4:Row.arr 1 [(.i rZ1:AV),(.i rZ2:AV)]=Row.arr 1 (lZ3.map AV.i):=by rw [← hlZ3]; rfl
 have jjZ5:lZ3.length=2:=by rw [← hlZ3]; rfl
 have nZ6:sub (lZ3.map AV.i) 0 2=lZ3.map AV.i:=sub_n _ (by simp [← hlZ3])
 obtain ⟨rZ7,hrZ7,h⟩:=bind_s h
 refine ZF (ZA eZ4 (ZA jjZ5 nZ6)) ?_
 refine ZS (ZA eZ4 (ZA jjZ5 nZ6)) (w_bw _ hrZ7) ?_
 refine ZG ?_
 cases h
 exact ZL (ZA eZ4 (ZA jjZ5 nZ6)) (ZA V131.eq_1 (ZA hlZ3.symm jjZ5))
def S_am (nZ0:TNetwork) (v:Int×TNetwork×List (List Int)):St:=⟨[(3,.pt 3 0 0),(4,.pt 4 0 0),(10,.i (nZ0.Nodes.length:Int)),(11,.i v.1)],[(1,.var (.agg [.lst .o 1 (((v.2.1).Nodes).map AV.z),.lst .o 4 (((v.2.1).Fibers).map (e_TFiber .o))])),(3,.var (.sl 500000192 0 v.2.2.length)),(4,.var (.fn 129 [.pt 1 0 0,.pt 3 0 0,.pt 4 0 0])),(500000192,.arr 1 (v.2.2.map (e_Li .u)))]⟩
def SX_am (v:List (List Int)):St:=⟨[(3,.pt 3 0 0)],[(3,.var (.sl 500000192 0 v.length)),(500000192,.arr 1 (v.map (e_Li .u)))]⟩
theorem w_am (nZ0:TNetwork) (sZ1:Int×TNetwork×List (List Int)) (o:(Int×TNetwork×List (List Int)) ⊕ (List (List Int))) (h:M_am nZ0 sZ1=some o):AWP (OkS Tryz.prog) A89L1 (qL [3,4,10,11] [1,3,4,500000192] (S_am nZ0) (qX 0 [3] [3,500000192] (SX_am)) o) (S_am nZ0 sZ1):=by
 unfold M_am at h
 simp only [ZC,S_am,A89L1]
 obtain ⟨cZ2,h⟩ | ⟨cZ2,h⟩:=cond_s h
 · obtain ⟨uZ3,huZ3,h⟩:=bind_s h
   have huZ3g:=grd_s huZ3
   obtain ⟨rZ4,hrZ4,h⟩:=bind_s h
   refine ZF (ZA cZ2 huZ3g) ?_
   refine ZW (ZA cZ2 huZ3g) (w_ee _ _ _ _ _ _ hrZ4) (h2:=by first | exact nm_ok [470000064,1000000000,1000000001,1000000003] rfl (by decide +kernel) | exact nm_ok2 [470000064,1000000000,1000000001,1000000003] [472000064] rfl (by decide +kernel) ZQ | exact ZQ) (hk:=?_)
   refine ZG ?_
   cases h
   exact ZL (ZA cZ2 huZ3g) (ZA S_am.eq_1 SX_am.eq_1)
 · cases h
   exact ZL cZ2 (ZA S_am.eq_1 SX_am.eq_1)
theorem w_dm (nZ0:TNetwork) {r:List (List Int)} (h:M_dm nZ0=some r):Ok Tryz.prog 89 [.agg [.lst .o 1 (nZ0.Nodes.map AV.z),.lst .o 4 (nZ0.Fibers.map (e_TFiber .o))]] ((fun r=>.lst .u 1 (r.map (e_Li .u))) r):=by
 refine ok_of_body hmix m89 rfl ?_
 unfold M_dm at h
 simp only [ZC,A89,V89,body_eq]
 obtain ⟨oZ5,hoZ5,h⟩:=bind_s h
 try refine ZF trivial ?_
 refine join_rule0 (blk_rule0 (loop_rule (w_am nZ0) hoZ5 ?_)) ?_
 · exact ZK (ZA S_am.eq_1 SX_am.eq_1)
 · simp only [ZC,SX_am,A89R2]
   obtain ⟨lZ6,hlZ6,h⟩:=bind_s h
   have eZ7:lZ6.length=oZ5.length:=sortX_len hlZ6
   refine ZF trivial ?_
   refine call_m (by simp only [VS1,VS2,VS3,VS4,VS5,VS6,VT1,VT2,finM_ret,finM_nrm,decide_true,decide_false,List.nodup_nil,List.nodup_cons,oks_p,oks_m,oks_h,ne_eq,not_false_eq_true,Int.reduceEq,Int.reduceNe,true_and,false_and,Nat.reduceSub,Nat.reduceMul,↓reduceIte,reduceCtorEq,Nat.reduceEqDiff,Nat.reduceAdd,Nat.reduceLeDiff,Int.reduceLE]; exact (okM_sort sort130 (e_Li .u) (shape_e_Li .u) (xs:=oZ5) (cmp:=(fun x0 x1=>M_bs x0 x1)) (C:=[]) (by simp [List.length_nil]) (by simp only [VS1,VS2,VS3,VS4,VS5,VS6,VT1,VT2,finM_ret,finM_nrm,decide_true,decide_false,List.nodup_nil,List.nodup_cons,oks_p,oks_m,oks_h,ne_eq,not_false_eq_true,Int.reduceEq,Int.reduceNe,true_and,false_and,Nat.reduceSub,Nat.reduceMul,↓reduceIte,reduceCtorEq,Nat.reduceEqDiff,Nat.reduceAdd,Nat.reduceLeDiff,Int.reduceLE,List.map_cons,List.map_nil]) rfl (by simp [Wf,VS1,VS2,VS3,VS4,VS5,VS6,VT1,VT2]) (by simp [VS1,VS2,VS3,VS4,VS5,VS6,VT1,VT2]) ((mtc_fn m131)) (fun _ _ _ hq=>by simp only [e_Li_nrm,VS1,VS2,VS3,VS4,VS5,VS6,VT1,VT2,finM_ret,finM_nrm,decide_true,decide_false,List.nodup_nil,List.nodup_cons,oks_p,oks_m,oks_h,ne_eq,not_false_eq_true,Int.reduceEq,Int.reduceNe,true_and,false_and,Nat.reduceSub,Nat.reduceMul,↓reduceIte,reduceCtorEq,Nat.reduceEqDiff,Nat.reduceAdd,Nat.reduceLeDiff,Int.reduceLE]; exact w_bs _ _ hq) hlZ6)) (by simp [VS1,VS2,VS3,VS4,VS5,VS6,VT1,VT2]) (by first | exact nm_ok [1000000000] rfl (by decide +kernel) | simp [VS1,VS2,VS3,VS4,VS5,VS6,VT1,VT2]) ?_
   refine ZG ?_
   have nZ8:sub (lZ6.map (e_Li .u)) 0 oZ5.length=lZ6.map (e_Li .u):=sub_n _ (by simp [eZ7])
   cases h
   exact ZL nZ8 (ZA V89.eq_1 eZ7)
theorem w_dn (nZ0:TNetwork) {r:List (List Int)×Bool} (h:M_dn nZ0=some r):Ok Tryz.prog 41 [.agg [.lst .o 1 (nZ0.Nodes.map AV.z),.lst .o 4 (nZ0.Fibers.map (e_TFiber .o))]] ((fun r=>.tup [.lst .u 1 (r.1.map (e_Li .u)),.b r.2]) r):=by
 refine ok_of_body hmix m41 rfl ?_
 unfold M_dn at h
 simp only [ZC,A41,V41,body_eq]
 obtain ⟨rZ1,hrZ1,h⟩:=bind_s h
 refine ZF trivial ?_
 refine ZS trivial (w_dh _ hrZ1) ?_
 refine ZG ?_
 obtain ⟨cZ2,h⟩ | ⟨cZ2,h⟩:=cond_s h
 · cases h
   exact ZL cZ2 V41.eq_1
 · obtain ⟨rZ3,hrZ3,h⟩:=bind_s h
   refine ZF cZ2 ?_
   refine ZU cZ2 (w_dm _ hrZ3) ?_
   refine ZG ?_
   obtain ⟨cZ4,h⟩ | ⟨cZ4,h⟩:=cond_s h
   · cases h
     exact ZL (ZA cZ2 cZ4) V41.eq_1
   · cases h
     exact ZL (ZA cZ2 cZ4) V41.eq_1
theorem w_eh (xZ0:Int) {r:Int} (h:M_eh xZ0=some r):Ok Tryz.prog 152 [.sc (.int .u64 xZ0)] ((fun r=>.i r) r):=by
 refine ok_of_body hmix m152 rfl ?_
 unfold M_eh at h
 simp only [ZC,A152,V152,body_eq]
 obtain ⟨oZ2,hoZ2,h⟩:=bind_s h
 try refine ZF trivial ?_
 refine join_rule0 (sh:=(fun v=>⟨[(0,.sc (.int .u64 v.1)),(2,.i v.2)],[]⟩)) (s:=oZ2) ?_ ?_
 · replace h:=hoZ2
   obtain ⟨cZ1,h⟩ | ⟨cZ1,h⟩:=cond_s h
   · cases h
     exact ZL cZ1 trivial
   · cases h
     exact ZL cZ1 trivial
 · simp only [ZC,A152R1]
   obtain ⟨oZ4,hoZ4,h⟩:=bind_s h
   try refine ZF trivial ?_
   refine join_rule0 (sh:=(fun v=>⟨[(0,.sc (.int .u64 v.1)),(2,.i v.2)],[]⟩)) (s:=oZ4) ?_ ?_
   · replace h:=hoZ4
     obtain ⟨cZ3,h⟩ | ⟨cZ3,h⟩:=cond_s h
     · cases h
       exact ZL cZ3 trivial
     · cases h
       exact ZL cZ3 trivial
   · simp only [ZC,A152R2]
     obtain ⟨oZ6,hoZ6,h⟩:=bind_s h
     try refine ZF trivial ?_
     refine join_rule0 (sh:=(fun v=>⟨[(0,.sc (.int .u64 v.1)),(2,.i v.2)],[]⟩)) (s:=oZ6) ?_ ?_
     · replace h:=hoZ6
       obtain ⟨cZ5,h⟩ | ⟨cZ5,h⟩:=cond_s h
       · cases h
         exact ZL cZ5 trivial
       · cases h
         exact ZL cZ5 trivial
     · simp only [ZC,A152R3]
       obtain ⟨yZ7,hyZ7,h⟩:=bind_s h
       obtain ⟨hyZ7a,hyZ7b⟩:=getz_s hyZ7
       cases h
       exact ZL (ZA hyZ7a hyZ7b) V152.eq_1
theorem w_do (xZ0:Int) {r:Int} (h:M_do xZ0=some r):Ok Tryz.prog 119 [.sc (.int .u64 xZ0)] ((fun r=>.i r) r):=by
 refine ok_of_body hmix m119 rfl ?_
 unfold M_do at h
 simp only [ZC,A119,V119,body_eq]
 obtain ⟨rZ1,hrZ1,h⟩:=bind_s h
 refine ZF trivial ?_
 refine ZS trivial (w_eh _ hrZ1) ?_
 refine ZG ?_
 cases h
 exact ZL trivial V119.eq_1
theorem w_dp (xZ0:Int) (yZ0:Int) {r:Bool} (h:M_dp xZ0 yZ0=some r):Ok Tryz.prog 164 [.i xZ0,.i yZ0] ((fun r=>.b r) r):=by
 refine ok_of_body hmix m164 rfl ?_
 unfold M_dp at h
 simp only [ZC,A164,V164,body_eq]
 obtain ⟨rZ1,hrZ1,h⟩:=bind_s h
 refine ZF trivial ?_
 refine ZS trivial (w_bk _ hrZ1) ?_
 refine ZG ?_
 obtain ⟨cZ2,h⟩ | ⟨cZ2,h⟩:=cond_s h
 · obtain ⟨rZ3,hrZ3,h⟩:=bind_s h
   refine ZF cZ2 ?_
   refine ZS cZ2 (w_bk _ hrZ3) ?_
   refine ZG ?_
   obtain ⟨cZ4,h⟩ | ⟨cZ4,h⟩:=cond_s h
   · cases h
     exact ZL (ZA cZ2 cZ4) V164.eq_1
   · cases h
     exact ZL (ZA cZ2 cZ4) V164.eq_1
 · cases h
   exact ZL cZ2 V164.eq_1
def S_h (aaZ0:Int) (abZ0:Int) (sZ1:Int×List Int) (v:Int×List Int):St:=⟨[(0,.sl 1000000000 0 v.2.length),(1,.i aaZ0),(2,.i abZ0),(6,.i sZ1.1),(7,.i v.1)],[(1000000000,.arr 1 (v.2.map AV.i))]⟩
def SX_h (aaZ0:Int) (abZ0:Int) (sZ1:Int×List Int) (v:List Int):St:=⟨[(0,.sl 1000000000 0 v.length),(1,.i aaZ0),(2,.i abZ0),(6,.i sZ1.1)],[(1000000000,.arr 1 (v.map AV.i))]⟩
theorem w_h (aaZ0:Int) (abZ0:Int) (sZ1:Int×List Int) (sZ3:Int×List Int) (o:(Int×List Int) ⊕ (List Int)) (h:M_h aaZ0 sZ3=some o):AWP (OkS Tryz.prog) A158M1L2 (qL [0,1,2,6,7] [1000000000] (S_h aaZ0 abZ0 sZ1) (qX 2 [0,1,2,6] [1000000000] (SX_h aaZ0 abZ0 sZ1)) o) (S_h aaZ0 abZ0 sZ1 sZ3):=by
 unfold M_h at h
 simp only [ZC,S_h,A158M1L2]
 obtain ⟨oZ10,hoZ10,h⟩:=bind_s h
 try refine ZF trivial ?_
 refine join_rule0 (sh:=(fun v=>⟨[(0,.sl 1000000000 0 sZ3.2.length),(1,.i aaZ0),(2,.i abZ0),(6,.i sZ1.1),(7,.i sZ3.1),(30,.b v)],[(1000000000,.arr 1 (sZ3.2.map AV.i))]⟩)) (s:=oZ10) ?_ ?_
 · replace h:=hoZ10
   obtain ⟨cZ4,h⟩ | ⟨cZ4,h⟩:=cond_s h
   · obtain ⟨kZ5,hkZ5,h⟩:=bind_s h
     obtain ⟨hkZ5a,hkZ5b⟩:=grd_s hkZ5
     obtain ⟨yZ6,hyZ6,h⟩:=bind_s h
     obtain ⟨kZ7,hkZ7,h⟩:=bind_s h
     obtain ⟨hkZ7a,hkZ7b⟩:=grd_s hkZ7
     obtain ⟨yZ8,hyZ8,h⟩:=bind_s h
     obtain ⟨rZ9,hrZ9,h⟩:=bind_s h
     refine ZF (ZA cZ4 (ZA hkZ5a (ZA hkZ5b (ZA hyZ6 (ZA hkZ7a (ZA hkZ7b hyZ8)))))) ?_
     refine ZS (ZA cZ4 (ZA hkZ5a (ZA hkZ5b (ZA hyZ6 (ZA hkZ7a (ZA hkZ7b hyZ8)))))) (w_dp _ _ hrZ9) ?_
     refine ZG ?_
     cases h
     exact ZL (ZA cZ4 (ZA hkZ5a (ZA hkZ5b (ZA hyZ6 (ZA hkZ7a (ZA hkZ7b hyZ8)))))) trivial
   · cases h
     exact ZL cZ4 trivial
 · simp only [ZC,A158M1R1]
   obtain ⟨cZ11,h⟩ | ⟨cZ11,h⟩:=cond_s h
   · obtain ⟨kZ12,hkZ12,h⟩:=bind_s h
     obtain ⟨hkZ12a,hkZ12b⟩:=grd_s hkZ12
     obtain ⟨yZ13,hyZ13,h⟩:=bind_s h
     obtain ⟨kZ14,hkZ14,h⟩:=bind_s h
     obtain ⟨hkZ14a,hkZ14b⟩:=grd_s hkZ14
     obtain ⟨yZ15,hyZ15,h⟩:=bind_s h
     obtain ⟨lZ16,hlZ16,h⟩:=bnd_s h
     have eZ17:(sZ3.2.map AV.i).set (Int.toNat sZ3.1) (.i yZ13)=lZ16.map AV.i:=by rw [← hlZ16,List.map_set]
     obtain ⟨yZ18,hyZ18,h⟩:=bind_s h
     obtain ⟨lZ19,hlZ19,h⟩:=bnd_s h
     have eZ20:(lZ16.map AV.i).set (Int.toNat (IntKind.wrap .i64 (sZ3.1 - 1))) (.i yZ15)=lZ19.map AV.i:=by rw [← hlZ19,List.map_set]
     cases h
     exact ZL (ZA cZ11 (ZA hkZ12a (ZA hkZ12b (ZA hyZ13 (ZA hkZ14a (ZA hkZ14b (ZA hyZ15 (ZA eZ17 (ZA hyZ18 eZ20))))))))) (ZA S_h.eq_1 (ZA SX_h.eq_1 (ZA hlZ16.symm hlZ19.symm)))
   · cases h
     exact ZL cZ11 (ZA S_h.eq_1 SX_h.eq_1)
def S_u (aaZ0:Int) (abZ0:Int) (v:Int×List Int):St:=⟨[(0,.sl 1000000000 0 v.2.length),(1,.i aaZ0),(2,.i abZ0),(6,.i v.1)],[(1000000000,.arr 1 (v.2.map AV.i))]⟩
def SX_u (v:List Int):St:=⟨[],[(1000000000,.arr 1 (v.map AV.i))]⟩
theorem w_u (aaZ0:Int) (abZ0:Int) (sZ1:Int×List Int) (o:(Int×List Int) ⊕ (List Int)) (h:M_u aaZ0 abZ0 sZ1=some o):AWP (OkS Tryz.prog) A158M1L4 (qL [0,1,2,6] [1000000000] (S_u aaZ0 abZ0) (qX 0 [] [1000000000] (SX_u)) o) (S_u aaZ0 abZ0 sZ1):=by
 unfold M_u at h
 simp only [ZC,S_u,A158M1L4]
 obtain ⟨cZ2,h⟩ | ⟨cZ2,h⟩:=cond_s h
 · obtain ⟨oZ23,hoZ23,h⟩:=bind_s h
   try refine ZF cZ2 ?_
   refine join_rule0 (sh:=(fun v=>⟨[(0,.sl 1000000000 0 v.length),(1,.i aaZ0),(2,.i abZ0),(6,.i sZ1.1)],[(1000000000,.arr 1 (v.map AV.i))]⟩)) (s:=oZ23) ?_ ?_
   · replace h:=hoZ23
     obtain ⟨oZ21,hoZ21,h⟩:=bind_s h
     try refine ZF cZ2 ?_
     first | refine tail_rule0 (blk_rule0 (loop_rule (w_h aaZ0 abZ0 sZ1) hoZ21 ?_)) (fun τ qZ22=>?_) | refine tail_blk0 (loop_rule (w_h aaZ0 abZ0 sZ1) hoZ21 ?_) (fun τ qZ22=>?_)
     · exact ZK (ZA S_h.eq_1 SX_h.eq_1)
     · cases h
       try refine ZF trivial ?_
       refine ⟨rfl,Shp.sub qZ22 (by decide) (by decide) ?_⟩
       exact ZK SX_h.eq_1
   · simp only [ZC,A158M1R3]
     cases h
     exact ZL cZ2 (ZA S_u.eq_1 SX_u.eq_1)
 · cases h
   exact ZL cZ2 (ZA S_u.eq_1 SX_u.eq_1)
theorem w_dq (aaZ0:Int) (abZ0:Int) (acZ0:List Int) {r:List Int} (h:M_dq aaZ0 abZ0 acZ0=some r):OkM Tryz.prog 158 [.sl 1000000000 0 acZ0.length,.i aaZ0,.i abZ0] [(1000000000,.arr 1 (acZ0.map AV.i))] ((fun (r:List Int)=>.tup []) r) ((fun (r:List Int)=>[(1000000000,.arr 1 (r.map AV.i))]) r):=by
 refine okM_of_body (lr:=[1000000000]) hmix m158M1 rfl rfl ?_
 unfold M_dq at h
 simp only [ZC,A158M1,V158M1]
 obtain ⟨oZ24,hoZ24,h⟩:=bind_s h
 try refine ZF trivial ?_
 first | refine tail_rule0 (blk_rule0 (loop_rule (w_u aaZ0 abZ0) hoZ24 ?_)) (fun τ qZ25=>?_) | refine tail_blk0 (loop_rule (w_u aaZ0 abZ0) hoZ24 ?_) (fun τ qZ25=>?_)
 · exact ZK (ZA S_u.eq_1 SX_u.eq_1)
 · cases h
   refine finM_shp qZ25 (by decide) ?_ rfl
   exact ZK (ZA V158M1.eq_1 SX_u.eq_1)
def S_bh (aaZ0:Int) (abZ0:Int) (acZ0:Int) (adZ0:List Int) (v:Unit):St:=⟨[(0,.sl 1000000000 0 adZ0.length),(1,.i aaZ0),(2,.i abZ0),(3,.i acZ0),(8,.b true),(9,.b true)],[(1000000000,.arr 1 (adZ0.map AV.i))]⟩
def SX_bh (v:Empty):St:=⟨[],[]⟩
theorem w_bh (aaZ0:Int) (abZ0:Int) (acZ0:Int) (adZ0:List Int) (sZ1:Unit) (o:Unit ⊕ (Empty ⊕ (List Int))) (h:M_bh aaZ0 abZ0 acZ0 adZ0 sZ1=some o):AWP (OkS Tryz.prog) A138M1L1 (qL [0,1,2,3,8,9] [1000000000] (S_bh aaZ0 abZ0 acZ0 adZ0) (qS (qX 0 [] [] (SX_bh)) (qM V138M1 [1000000000] (fun (r:List Int)=>.tup []) (fun (r:List Int)=>[(1000000000,.arr 1 (r.map AV.i))]))) o) (S_bh aaZ0 abZ0 acZ0 adZ0 sZ1):=by
 unfold M_bh at h
 simp only [ZC,S_bh,A138M1L1]
 obtain ⟨cZ2,h⟩ | ⟨cZ2,h⟩:=cond_s h
 · obtain ⟨rZ3,hrZ3,h⟩:=bind_s h
   refine ZF cZ2 ?_
   refine ZW cZ2 (w_dq _ _ _ hrZ3) (h2:=by first | exact nm_ok [1000000000] rfl (by decide +kernel) | exact nm_ok2 [1000000000] [] rfl (by decide +kernel) ZQ | exact ZQ) (hk:=?_)
   refine ZG ?_
   cases h
   exact ZL cZ2 V138M1.eq_1
 · obtain ⟨cZ4,h⟩ | ⟨cZ4,h⟩:=cond_s h
   · cases h
   · cases h
theorem w_ef (aaZ0:Int) (abZ0:Int) (acZ0:Int) (adZ0:List Int) {r:List Int} (h:M_ef aaZ0 abZ0 acZ0 adZ0=some r):OkM Tryz.prog 138 [.sl 1000000000 0 adZ0.length,.i aaZ0,.i abZ0,.i acZ0] [(1000000000,.arr 1 (adZ0.map AV.i))] ((fun (r:List Int)=>.tup []) r) ((fun (r:List Int)=>[(1000000000,.arr 1 (r.map AV.i))]) r):=by
 refine okM_of_body (lr:=[1000000000]) hmix m138M1 rfl rfl ?_
 unfold M_ef at h
 simp only [ZC,A138M1,V138M1]
 obtain ⟨oZ5,hoZ5,h⟩:=bind_s h
 try refine ZF trivial ?_
 first | refine tail_rule (o:=oZ5) (blk_rule sideM (loop_rule (w_bh aaZ0 abZ0 acZ0 adZ0) hoZ5 ?_)) (fun vZ6 hv τ qZ8=>?_) (fun xZ7 hv e τ hne hq=>?_) | refine tail_blk (o:=oZ5) sideM (loop_rule (w_bh aaZ0 abZ0 acZ0 adZ0) hoZ5 ?_) (fun vZ6 hv τ qZ8=>?_) (fun xZ7 hv e τ hne hq=>?_)
 · exact ZK (ZA S_bh.eq_1 SX_bh.eq_1)
 · exact vZ6.elim
 · subst hv
   simp only [] at h
   obtain ⟨rfl,qZ9⟩:=hq
   cases h
   exact qZ9
theorem w_dr (aaZ0:List Int) {r:List Int} (h:M_dr aaZ0=some r):OkM Tryz.prog 106 [.sl 1000000000 0 aaZ0.length] [(1000000000,.arr 1 (aaZ0.map AV.i))] ((fun (r:List Int)=>.tup []) r) ((fun (r:List Int)=>[(1000000000,.arr 1 (r.map AV.i))]) r):=by
 refine okM_of_body (lr:=[1000000000]) hmix m106M1 rfl rfl ?_
 unfold M_dr at h
 simp only [ZC,A106M1,V106M1]
 obtain ⟨rZ1,hrZ1,h⟩:=bind_s h
 refine ZF trivial ?_
 refine ZS trivial (w_do _ hrZ1) ?_
 refine ZG ?_
 obtain ⟨rZ2,hrZ2,h⟩:=bind_s h
 refine ZF trivial ?_
 refine ZW trivial (w_ef _ _ _ _ hrZ2) (h2:=by first | exact nm_ok [1000000000] rfl (by decide +kernel) | exact nm_ok2 [1000000000] [] rfl (by decide +kernel) ZQ | exact ZQ) (hk:=?_)
 refine ZG ?_
 cases h
 exact ZL trivial V106M1.eq_1
def S_o (nZ0:TNetwork) (ringZ0:List Int) (rZ1:List Int) (rZ2:List Int) (rZ3:List Int×Bool) (v:Int×List Int):St:=⟨[(1,.lst .o 1 (ringZ0.map AV.i)),(6,.sl 6 0 rZ1.length),(7,.sl 7 0 v.2.length),(8,.sl 8 0 rZ3.1.length),(24,.lst .o 4 (nZ0.Fibers.map (e_TFiber .o))),(25,.i (nZ0.Fibers.length:Int)),(26,.i v.1)],[(6,.arr 1 (rZ2.map AV.i)),(7,.arr 1 (v.2.map AV.i)),(8,.arr 1 (rZ3.1.map AV.i))]⟩
def SX_o (rZ1:List Int) (rZ2:List Int) (v:List Int):St:=⟨[(6,.sl 6 0 rZ1.length),(7,.sl 7 0 v.length)],[(6,.arr 1 (rZ2.map AV.i)),(7,.arr 1 (v.map AV.i))]⟩
theorem w_o (nZ0:TNetwork) (ringZ0:List Int) (rZ1:List Int) (rZ2:List Int) (rZ3:List Int×Bool) (sZ4:Int×List Int) (o:(Int×List Int) ⊕ (List Int)) (h:M_o nZ0 ringZ0 rZ3 sZ4=some o):AWP (OkS Tryz.prog) A64L2 (qL [1,6,7,8,24,25,26] [6,7,8] (S_o nZ0 ringZ0 rZ1 rZ2 rZ3) (qX 0 [6,7] [6,7] (SX_o rZ1 rZ2)) o) (S_o nZ0 ringZ0 rZ1 rZ2 rZ3 sZ4):=by
 unfold M_o at h
 simp only [ZC,S_o,A64L2]
 obtain ⟨cZ5,h⟩ | ⟨cZ5,h⟩:=cond_s h
 · obtain ⟨yZ6,hyZ6,h⟩:=bind_s h
   obtain ⟨hyZ6a,hyZ6b⟩:=geti_s hyZ6
   obtain ⟨oZ12,hoZ12,h⟩:=bind_s h
   try refine ZF (ZA cZ5 (ZA hyZ6a hyZ6b)) ?_
   refine join_rule0 (sh:=(fun v=>⟨[(1,.lst .o 1 (ringZ0.map AV.i)),(6,.sl 6 0 rZ1.length),(7,.sl 7 0 sZ4.2.length),(8,.sl 8 0 rZ3.1.length),(10,.i sZ4.1),(24,.lst .o 4 (nZ0.Fibers.map (e_TFiber .o))),(25,.i (nZ0.Fibers.length:Int)),(26,.i sZ4.1),(46,.b v)],[(6,.arr 1 (rZ2.map AV.i)),(7,.arr 1 (sZ4.2.map AV.i)),(8,.arr 1 (rZ3.1.map AV.i))]⟩)) (s:=oZ12) ?_ ?_
   · replace h:=hoZ12
     obtain ⟨rZ7,hrZ7,h⟩:=bind_s h
     refine ZF (ZA cZ5 (ZA hyZ6a hyZ6b)) ?_
     refine ZS (ZA cZ5 (ZA hyZ6a hyZ6b)) (w_ba _ _ hrZ7) ?_
     refine ZG ?_
     obtain ⟨cZ8,h⟩ | ⟨cZ8,h⟩:=cond_s h
     · obtain ⟨rZ9,hrZ9,h⟩:=bind_s h
       refine ZF (ZA cZ5 (ZA hyZ6a (ZA hyZ6b cZ8))) ?_
       refine ZS (ZA cZ5 (ZA hyZ6a (ZA hyZ6b cZ8))) (w_ba _ _ hrZ9) ?_
       refine ZG ?_
       obtain ⟨cZ10,h⟩ | ⟨cZ10,h⟩:=cond_s h
       · obtain ⟨rZ11,hrZ11,h⟩:=bind_s h
         refine ZF (ZA cZ5 (ZA hyZ6a (ZA hyZ6b (ZA cZ8 cZ10)))) ?_
         refine ZS (ZA cZ5 (ZA hyZ6a (ZA hyZ6b (ZA cZ8 cZ10)))) (w_ba _ _ hrZ11) ?_
         refine ZG ?_
         cases h
         exact ZL (ZA cZ5 (ZA hyZ6a (ZA hyZ6b (ZA cZ8 cZ10)))) trivial
       · cases h
         exact ZL (ZA cZ5 (ZA hyZ6a (ZA hyZ6b (ZA cZ8 cZ10)))) trivial
     · cases h
       exact ZL (ZA cZ5 (ZA hyZ6a (ZA hyZ6b cZ8))) trivial
   · simp only [ZC,A64R1]
     obtain ⟨cZ13,h⟩ | ⟨cZ13,h⟩:=cond_s h
     · obtain ⟨lZ14,hlZ14,h⟩:=bnd_s h
       have eZ15:Row.arr 1 [(.i sZ4.1:AV)]=Row.arr 1 (lZ14.map AV.i):=by rw [← hlZ14]; rfl
       have jjZ16:lZ14.length=1:=by rw [← hlZ14]; rfl
       obtain ⟨uZ17,huZ17,h⟩:=bind_s h
       have huZ17g:=grd_s huZ17
       obtain ⟨lZ18,hlZ18,h⟩:=bnd_s h
       have eZ19:sZ4.2.map AV.i++lZ14.map AV.i=lZ18.map AV.i:=by rw [← hlZ18,List.map_append]
       have eZ20:sZ4.2.length+1=lZ18.length:=by simp [← hlZ14,← hlZ18] <;> omega
       rw [eZ20] at huZ17g
       cases h
       exact ZL (ZA cZ5 (ZA hyZ6a (ZA hyZ6b (ZA cZ13 (ZA eZ15 (ZA jjZ16 (ZA huZ17g (ZA eZ19 eZ20)))))))) (ZA S_o.eq_1 (ZA SX_o.eq_1 (ZA hlZ14.symm (ZA hlZ18.symm jjZ16))))
     · cases h
       exact ZL (ZA cZ5 (ZA hyZ6a (ZA hyZ6b cZ13))) (ZA S_o.eq_1 SX_o.eq_1)
 · cases h
   exact ZL cZ5 (ZA S_o.eq_1 SX_o.eq_1)
theorem w_ds (nZ0:TNetwork) (ringZ0:List Int) {r:List Int×List Int} (h:M_ds nZ0 ringZ0=some r):Ok Tryz.prog 64 [.agg [.lst .o 1 (nZ0.Nodes.map AV.z),.lst .o 4 (nZ0.Fibers.map (e_TFiber .o))],.lst .o 1 (ringZ0.map AV.i)] ((fun r=>.tup [.lst .u 1 (r.1.map AV.i),.lst .u 1 (r.2.map AV.i)]) r):=by
 refine ok_of_body hmix m64 rfl ?_
 unfold M_ds at h
 simp only [ZC,A64,V64,body_eq]
 obtain ⟨rZ1,hrZ1,h⟩:=bind_s h
 refine ZF trivial ?_
 refine ZU trivial (w_bp _ hrZ1) ?_
 refine ZG ?_
 obtain ⟨rZ2,hrZ2,h⟩:=bind_s h
 refine ZF trivial ?_
 refine ZW trivial (w_dr _ hrZ2) (h2:=by first | exact nm_ok [1000000000] rfl (by decide +kernel) | exact nm_ok2 [1000000000] [] rfl (by decide +kernel) ZQ | exact ZQ) (hk:=?_)
 refine ZG ?_
 obtain ⟨rZ3,hrZ3,h⟩:=bind_s h
 refine ZF trivial ?_
 refine ZU trivial (w_br _ _ hrZ3) ?_
 refine ZG ?_
 obtain ⟨oZ21,hoZ21,h⟩:=bind_s h
 try refine ZF trivial ?_
 refine join_rule0 (blk_rule0 (loop_rule (w_o nZ0 ringZ0 rZ1 rZ2 rZ3) hoZ21 ?_)) ?_
 · exact ZK (ZA S_o.eq_1 SX_o.eq_1)
 · simp only [ZC,SX_o,A64R3]
   obtain ⟨lZ22,hlZ22,h⟩:=bnd_s h
   have eZ23:sub (rZ2.map AV.i) 0 rZ1.length=lZ22.map AV.i:=by rw [sub_mapT,hlZ22]
   cases h
   exact ZL eZ23 V64.eq_1
theorem w_dt (aaZ0:Int) {r:Nat×Nat×List Int} (h:M_dt aaZ0=some r):OkM Tryz.prog 133 [.lst .u 1 [],.i aaZ0] [] ((fun (r:Nat×Nat×List Int)=>.sl 4 r.1 r.2.1) r) ((fun (r:Nat×Nat×List Int)=>[(4,.arr 1 (r.2.2.map AV.i))]) r):=by
 refine okM_of_body (lr:=[4]) hmix m133M1 rfl rfl ?_
 unfold M_dt at h
 simp only [ZC,A133M1,V133M1]
 obtain ⟨cZ1,h⟩ | ⟨cZ1,h⟩:=cond_s h
 · cases h
 · obtain ⟨cZ2,h⟩ | ⟨cZ2,h⟩:=cond_s h
   · obtain ⟨uZ3,huZ3,h⟩:=bind_s h
     obtain ⟨huZ31,huZ32⟩:=grd_s huZ3
     obtain ⟨lZ4,hlZ4,h⟩:=bnd_s h
     have eZ5:List.replicate (Int.toNat (IntKind.wrap .i64 (aaZ0 - (IntKind.wrap .i64 (0 - ((0:Nat):Int)))))) (.i 0:AV)=lZ4.map AV.i:=by rw [← hlZ4,List.map_replicate]
     obtain ⟨uZ6,huZ6,h⟩:=bind_s h
     obtain ⟨huZ6a,huZ6b,huZ6c,huZ6d⟩:=grd_s huZ6
     cases h
     exact ZL (ZA cZ1 (ZA cZ2 (ZA huZ31 (ZA huZ32 (ZA eZ5 (ZA huZ6a (ZA huZ6b (ZA huZ6c huZ6d)))))))) (ZA V133M1.eq_1 (ZA hlZ4.symm @Zr))
   · cases h
     exact ZL (ZA cZ1 cZ2) V133M1.eq_1
def S_v (slicesZ0:List (List Int)) (v:Int×Int):St:=⟨[(0,.lst .o 1 (slicesZ0.map (e_Li .o))),(3,.i v.1),(9,.lst .o 1 (slicesZ0.map (e_Li .o))),(10,.i (slicesZ0.length:Int)),(11,.i v.2)],[]⟩
def SX_v (slicesZ0:List (List Int)) (v:Int):St:=⟨[(0,.lst .o 1 (slicesZ0.map (e_Li .o))),(3,.i v)],[]⟩
theorem w_v (slicesZ0:List (List Int)) (sZ1:Int×Int) (o:(Int×Int) ⊕ Int) (h:M_v slicesZ0 sZ1=some o):AWP (OkS Tryz.prog) A93L1 (qL [0,3,9,10,11] [] (S_v slicesZ0) (qX 0 [0,3] [] (SX_v slicesZ0)) o) (S_v slicesZ0 sZ1):=by
 unfold M_v at h
 simp only [ZC,S_v,A93L1]
 obtain ⟨cZ2,h⟩ | ⟨cZ2,h⟩:=cond_s h
 · obtain ⟨yZ3,hyZ3,h⟩:=bind_s h
   obtain ⟨hyZ3a,hyZ3b⟩:=geti_s hyZ3
   obtain ⟨cZ4,h⟩ | ⟨cZ4,h⟩:=cond_s h
   · cases h
   · cases h
     exact ZL (ZA cZ2 (ZA hyZ3a (ZA hyZ3b cZ4))) (ZA S_v.eq_1 SX_v.eq_1)
 · cases h
   exact ZL cZ2 (ZA S_v.eq_1 SX_v.eq_1)
def S_bb (slicesZ0:List (List Int)) (v:Nat×Nat×Int×List Int):St:=⟨[(6,.sl 6 v.1 v.2.1),(25,.lst .o 1 (slicesZ0.map (e_Li .o))),(26,.i (slicesZ0.length:Int)),(27,.i v.2.2.1)],[(6,.arr 1 (v.2.2.2.map AV.i))]⟩
def SX_bb (v:Nat×Nat×List Int):St:=⟨[(6,.sl 6 v.1 v.2.1)],[(6,.arr 1 (v.2.2.map AV.i))]⟩
theorem w_bb (slicesZ0:List (List Int)) (sZ7:Nat×Nat×Int×List Int) (o:(Nat×Nat×Int×List Int) ⊕ (Nat×Nat×List Int)) (h:M_bb slicesZ0 sZ7=some o):AWP (OkS Tryz.prog) A93L3 (qL [6,25,26,27] [6] (S_bb slicesZ0) (qX 2 [6] [6] (SX_bb)) o) (S_bb slicesZ0 sZ7):=by
 unfold M_bb at h
 simp only [ZC,S_bb,A93L3]
 obtain ⟨cZ8,h⟩ | ⟨cZ8,h⟩:=cond_s h
 · obtain ⟨yZ9,hyZ9,h⟩:=bind_s h
   obtain ⟨hyZ9a,hyZ9b⟩:=geti_s hyZ9
   obtain ⟨lZ10,hlZ10,h⟩:=bnd_s h
   have eZ11:sub (sZ7.2.2.2.map AV.i) sZ7.1 sZ7.2.1=lZ10.map AV.i:=by rw [sub_mapT,hlZ10]
   obtain ⟨uZ12,huZ12,h⟩:=bind_s h
   have huZ12g:=grd_s huZ12
   obtain ⟨lZ13,hlZ13,h⟩:=bnd_s h
   have eZ14:lZ10.map AV.i++yZ9.map AV.i=lZ13.map AV.i:=by rw [← hlZ13,List.map_append]
   cases h
   exact ZL (ZA cZ8 (ZA hyZ9a (ZA hyZ9b (ZA eZ11 (ZA huZ12g eZ14))))) (ZA S_bb.eq_1 SX_bb.eq_1)
 · cases h
   exact ZL cZ8 (ZA S_bb.eq_1 SX_bb.eq_1)
theorem w_du (slicesZ0:List (List Int)) {r:List Int} (h:M_du slicesZ0=some r):Ok Tryz.prog 93 [.lst .o 1 (slicesZ0.map (e_Li .o))] ((fun r=>.lst .u 1 (r.map AV.i)) r):=by
 refine ok_of_body hmix m93 rfl ?_
 unfold M_du at h
 simp only [ZC,A93,V93,body_eq]
 obtain ⟨oZ5,hoZ5,h⟩:=bind_s h
 try refine ZF trivial ?_
 refine join_rule0 (blk_rule0 (loop_rule (w_v slicesZ0) hoZ5 ?_)) ?_
 · exact ZK (ZA S_v.eq_1 SX_v.eq_1)
 · simp only [ZC,SX_v,A93R2]
   obtain ⟨rZ6,hrZ6,h⟩:=bind_s h
   refine ZF trivial ?_
   refine ZW trivial (w_dt _ hrZ6) (h2:=by first | exact nm_ok [4] rfl (by decide +kernel) | exact nm_ok2 [4] [2500004] rfl (by decide +kernel) ZQ | exact ZQ) (hk:=?_)
   refine ZG ?_
   obtain ⟨oZ15,hoZ15,h⟩:=bind_s h
   try refine ZF trivial ?_
   refine join_rule0 (blk_rule0 (loop_rule (w_bb slicesZ0) hoZ15 ?_)) ?_
   · exact ZK (ZA S_bb.eq_1 SX_bb.eq_1)
   · simp only [ZC,SX_bb,A93R4]
     obtain ⟨lZ16,hlZ16,h⟩:=bnd_s h
     have eZ17:sub (oZ15.2.2.map AV.i) oZ15.1 oZ15.2.1=lZ16.map AV.i:=by rw [sub_mapT,hlZ16]
     cases h
     exact ZL eZ17 V93.eq_1
def S_i (acZ0:Nat) (adZ0:Nat) (aeZ0:Bool) (rZ6:List Int) (v:Int×Int×List Bool):St:=⟨[(2,.sl 1000000000 acZ0 adZ0),(3,.b aeZ0),(9,.i v.1),(23,.sl 23 0 rZ6.length),(24,.i (rZ6.length:Int)),(25,.i v.2.1)],[(23,.arr 1 (rZ6.map AV.i)),(1000000000,.arr 1 (v.2.2.map AV.b))]⟩
def SX_i (v:Int×List Bool):St:=⟨[(9,.i v.1)],[(1000000000,.arr 1 (v.2.map AV.b))]⟩
theorem w_i (acZ0:Nat) (adZ0:Nat) (aeZ0:Bool) (rZ6:List Int) (sZ7:Int×Int×List Bool) (o:(Int×Int×List Bool) ⊕ (Int×List Bool)) (h:M_i acZ0 adZ0 aeZ0 rZ6 sZ7=some o):AWP (OkS Tryz.prog) A48M2L2 (qL [2,3,9,23,24,25] [23,1000000000] (S_i acZ0 adZ0 aeZ0 rZ6) (qX 0 [9] [1000000000] (SX_i)) o) (S_i acZ0 adZ0 aeZ0 rZ6 sZ7):=by
 unfold M_i at h
 simp only [ZC,S_i,A48M2L2]
 obtain ⟨cZ8,h⟩ | ⟨cZ8,h⟩:=cond_s h
 · obtain ⟨kZ9,hkZ9,h⟩:=bind_s h
   obtain ⟨hkZ9a,hkZ9b⟩:=grd_s hkZ9
   obtain ⟨yZ10,hyZ10,h⟩:=bind_s h
   obtain ⟨oZ14,hoZ14,h⟩:=bind_s h
   try refine ZF (ZA cZ8 (ZA hkZ9a (ZA hkZ9b hyZ10))) ?_
   refine join_rule0 (sh:=(fun v=>⟨[(2,.sl 1000000000 acZ0 adZ0),(3,.b aeZ0),(9,.i v),(13,.i yZ10),(23,.sl 23 0 rZ6.length),(24,.i (rZ6.length:Int)),(25,.i sZ7.2.1)],[(23,.arr 1 (rZ6.map AV.i)),(1000000000,.arr 1 (sZ7.2.2.map AV.b))]⟩)) (s:=oZ14) ?_ ?_
   · replace h:=hoZ14
     obtain ⟨kZ11,hkZ11,h⟩:=bind_s h
     obtain ⟨hkZ11a,hkZ11b⟩:=grd_s hkZ11
     obtain ⟨yZ12,hyZ12,h⟩:=bind_s h
     obtain ⟨cZ13,h⟩ | ⟨cZ13,h⟩:=cond_s h
     · cases h
       exact ZL (ZA cZ8 (ZA hkZ9a (ZA hkZ9b (ZA hyZ10 (ZA hkZ11a (ZA hkZ11b (ZA hyZ12 cZ13))))))) trivial
     · cases h
       exact ZL (ZA cZ8 (ZA hkZ9a (ZA hkZ9b (ZA hyZ10 (ZA hkZ11a (ZA hkZ11b (ZA hyZ12 cZ13))))))) trivial
   · simp only [ZC,A48M2R1]
     obtain ⟨kZ15,hkZ15,h⟩:=bind_s h
     obtain ⟨hkZ15a,hkZ15b⟩:=grd_s hkZ15
     obtain ⟨yZ16,hyZ16,h⟩:=bind_s h
     obtain ⟨cZ17,h⟩ | ⟨cZ17,h⟩:=cond_s h
     · obtain ⟨lZ18,hlZ18,h⟩:=bnd_s h
       have eZ19:(sZ7.2.2.map AV.b).set (acZ0+(Int.toNat yZ10)) (.b true)=lZ18.map AV.b:=by rw [← hlZ18,List.map_set]
       cases h
       exact ZL (ZA cZ8 (ZA hkZ9a (ZA hkZ9b (ZA hyZ10 (ZA hkZ15a (ZA hkZ15b (ZA hyZ16 (ZA cZ17 eZ19)))))))) (ZA S_i.eq_1 (ZA SX_i.eq_1 hlZ18.symm))
     · obtain ⟨lZ20,hlZ20,h⟩:=bnd_s h
       have eZ21:(sZ7.2.2.map AV.b).set (acZ0+(Int.toNat yZ10)) (.b aeZ0)=lZ20.map AV.b:=by rw [← hlZ20,List.map_set]
       cases h
       exact ZL (ZA cZ8 (ZA hkZ9a (ZA hkZ9b (ZA hyZ10 (ZA hkZ15a (ZA hkZ15b (ZA hyZ16 (ZA cZ17 eZ21)))))))) (ZA S_i.eq_1 (ZA SX_i.eq_1 hlZ20.symm))
 · cases h
   exact ZL cZ8 (ZA S_i.eq_1 SX_i.eq_1)
theorem w_ca (aaZ0:TNetwork) (abZ0:List Int) (acZ0:Nat) (adZ0:Nat) (aeZ0:Bool) (afZ0:List Bool) {r:Int×List Bool} (h:M_ca aaZ0 abZ0 acZ0 adZ0 aeZ0 afZ0=some r):OkM Tryz.prog 48 [.agg [.lst .o 1 (((aaZ0).Nodes).map AV.z),.lst .o 4 (((aaZ0).Fibers).map (e_TFiber .o))],.lst .m 1 (abZ0.map AV.i),.sl 1000000000 acZ0 adZ0,.b aeZ0] [(1000000000,.arr 1 (afZ0.map AV.b))] ((fun (r:Int×List Bool)=>.i r.1) r) ((fun (r:Int×List Bool)=>[(1000000000,.arr 1 (r.2.map AV.b))]) r):=by
 refine okM_of_body (lr:=[1000000000]) hmix m48M2 rfl rfl ?_
 unfold M_ca at h
 simp only [ZC,A48M2,V48M2]
 obtain ⟨rZ1,hrZ1,h⟩:=bind_s h
 refine ZF trivial ?_
 refine ZU trivial (w_ds _ _ hrZ1) ?_
 refine ZG ?_
 obtain ⟨lZ2,hlZ2,h⟩:=bnd_s h
 have eZ3:Row.arr 1 [(.lst .u 1 (rZ1.1.map AV.i):AV),(.lst .u 1 (rZ1.2.map AV.i):AV)]=Row.arr 1 (lZ2.map (e_Li .u)):=by rw [← hlZ2]; rfl
 have jjZ4:lZ2.length=2:=by rw [← hlZ2]; rfl
 have nZ5:sub (lZ2.map (e_Li .u)) 0 2=lZ2.map (e_Li .u):=sub_n _ (by simp [← hlZ2])
 obtain ⟨rZ6,hrZ6,h⟩:=bind_s h
 refine ZF (ZA eZ3 (ZA jjZ4 nZ5)) ?_
 refine ZU (ZA eZ3 (ZA jjZ4 nZ5)) (w_du _ hrZ6) ?_
 refine ZG ?_
 obtain ⟨oZ22,hoZ22,h⟩:=bind_s h
 try refine ZF (ZA eZ3 (ZA jjZ4 nZ5)) ?_
 refine join_rule0 (blk_rule0 (loop_rule (w_i acZ0 adZ0 aeZ0 rZ6) hoZ22 ?_)) ?_
 · exact ZK (ZA S_i.eq_1 (ZA SX_i.eq_1 (ZA hlZ2.symm jjZ4)))
 · simp only [ZC,SX_i,A48M2R3]
   cases h
   exact ZL (ZA eZ3 (ZA jjZ4 nZ5)) (ZA V48M2.eq_1 jjZ4)
def S_f (nZ0:TNetwork) (rZ1:List (List Int)×Bool) (sZ6:Nat×List (List Int)×List Bool) (v:Int×Int×Int×List Bool):St:=⟨[(1,.pt 1 0 0),(4,.sl 4 0 rZ1.1.length),(6,.sl 6 0 sZ6.2.1.length),(7,.sl 7 0 sZ6.1),(8,.i v.1),(9,.i v.2.1),(25,.sl 4 0 rZ1.1.length),(26,.i (rZ1.1.length:Int)),(27,.i v.2.2.1)],[(1,.var (.agg [.lst .o 1 (nZ0.Nodes.map AV.z),.lst .o 4 (nZ0.Fibers.map (e_TFiber .o))])),(4,.arr 1 (rZ1.1.map (e_Li .u))),(6,.arr 1 (sZ6.2.1.map (e_Li .u))),(7,.arr 1 (v.2.2.2.map AV.b))]⟩
def SX_f (nZ0:TNetwork) (rZ1:List (List Int)×Bool) (sZ6:Nat×List (List Int)×List Bool) (v:Int×Int×List Bool):St:=⟨[(1,.pt 1 0 0),(4,.sl 4 0 rZ1.1.length),(6,.sl 6 0 sZ6.2.1.length),(7,.sl 7 0 sZ6.1),(8,.i v.1),(9,.i v.2.1)],[(1,.var (.agg [.lst .o 1 (nZ0.Nodes.map AV.z),.lst .o 4 (nZ0.Fibers.map (e_TFiber .o))])),(4,.arr 1 (rZ1.1.map (e_Li .u))),(6,.arr 1 (sZ6.2.1.map (e_Li .u))),(7,.arr 1 (v.2.2.map AV.b))]⟩
theorem w_f (nZ0:TNetwork) (rZ1:List (List Int)×Bool) (sZ6:Nat×List (List Int)×List Bool) (sZ7:Int×Int×Int×List Bool) (o:(Int×Int×Int×List Bool) ⊕ (Int×Int×List Bool)) (h:M_f nZ0 rZ1 sZ6 sZ7=some o):AWP (OkS Tryz.prog) A18L1 (qL [1,4,6,7,8,9,25,26,27] [1,4,6,7] (S_f nZ0 rZ1 sZ6) (qX 2 [1,4,6,7,8,9] [1,4,6,7] (SX_f nZ0 rZ1 sZ6)) o) (S_f nZ0 rZ1 sZ6 sZ7):=by
 unfold M_f at h
 simp only [ZC,S_f,A18L1]
 obtain ⟨cZ8,h⟩ | ⟨cZ8,h⟩:=cond_s h
 · obtain ⟨kZ9,hkZ9,h⟩:=bind_s h
   obtain ⟨hkZ9a,hkZ9b⟩:=grd_s hkZ9
   obtain ⟨yZ10,hyZ10,h⟩:=bind_s h
   obtain ⟨rZ11,hrZ11,h⟩:=bind_s h
   refine ZF (ZA cZ8 (ZA hkZ9a (ZA hkZ9b hyZ10))) ?_
   refine ZW (ZA cZ8 (ZA hkZ9a (ZA hkZ9b hyZ10))) (w_ca _ _ _ _ _ _ hrZ11) (h2:=by first | exact nm_ok [1000000000] rfl (by decide +kernel) | exact nm_ok2 [1000000000] [] rfl (by decide +kernel) ZQ | exact ZQ) (hk:=?_)
   refine ZG ?_
   obtain ⟨cZ12,h⟩ | ⟨cZ12,h⟩:=cond_s h
   · cases h
     exact ZL (ZA cZ8 (ZA hkZ9a (ZA hkZ9b (ZA hyZ10 cZ12)))) (ZA S_f.eq_1 SX_f.eq_1)
   · cases h
     exact ZL (ZA cZ8 (ZA hkZ9a (ZA hkZ9b (ZA hyZ10 cZ12)))) (ZA S_f.eq_1 SX_f.eq_1)
 · cases h
   exact ZL cZ8 (ZA S_f.eq_1 SX_f.eq_1)
def S_be (nZ0:TNetwork) (rZ1:List (List Int)×Bool) (v:Nat×List (List Int)×List Bool):St:=⟨[(1,.pt 1 0 0),(4,.sl 4 0 rZ1.1.length),(6,.sl 6 0 v.2.1.length),(7,.sl 7 0 v.1)],[(1,.var (.agg [.lst .o 1 (nZ0.Nodes.map AV.z),.lst .o 4 (nZ0.Fibers.map (e_TFiber .o))])),(4,.arr 1 (rZ1.1.map (e_Li .u))),(6,.arr 1 (v.2.1.map (e_Li .u))),(7,.arr 1 (v.2.2.map AV.b))]⟩
def SX_be (v:Empty):St:=⟨[],[]⟩
theorem w_be (nZ0:TNetwork) (rZ1:List (List Int)×Bool) (sZ6:Nat×List (List Int)×List Bool) (o:(Nat×List (List Int)×List Bool) ⊕ (Empty ⊕ (List (List Int)×Bool))) (h:M_be nZ0 rZ1 sZ6=some o):AWP (OkS Tryz.prog) A18L3 (qL [1,4,6,7] [1,4,6,7] (S_be nZ0 rZ1) (qS (qX 0 [] [] (SX_be)) (qR V18 (fun r=>.tup [.lst .u 1 (r.1.map (e_Li .u)),.b r.2]))) o) (S_be nZ0 rZ1 sZ6):=by
 unfold M_be at h
 simp only [ZC,S_be,A18L3]
 obtain ⟨oZ13,hoZ13,h⟩:=bind_s h
 try refine ZF trivial ?_
 refine join_rule0 (blk_rule0 (loop_rule (w_f nZ0 rZ1 sZ6) hoZ13 ?_)) ?_
 · exact ZK (ZA S_f.eq_1 SX_f.eq_1)
 · simp only [ZC,SX_f,A18R2]
   obtain ⟨cZ14,h⟩ | ⟨cZ14,h⟩:=cond_s h
   · cases h
     exact ZL cZ14 V18.eq_1
   · obtain ⟨kZ15,hkZ15,h⟩:=bind_s h
     obtain ⟨hkZ15a,hkZ15b⟩:=grd_s hkZ15
     obtain ⟨yZ16,hyZ16,h⟩:=bind_s h
     obtain ⟨rZ17,hrZ17,h⟩:=bind_s h
     refine ZF (ZA cZ14 (ZA hkZ15a (ZA hkZ15b hyZ16))) ?_
     refine ZW (ZA cZ14 (ZA hkZ15a (ZA hkZ15b hyZ16))) (w_ca _ _ _ _ _ _ hrZ17) (h2:=by first | exact nm_ok [1000000000] rfl (by decide +kernel) | exact nm_ok2 [1000000000] [] rfl (by decide +kernel) ZQ | exact ZQ) (hk:=?_)
     refine ZG ?_
     obtain ⟨rZ18,hrZ18,h⟩:=bind_s h
     refine ZF (ZA cZ14 (ZA hkZ15a (ZA hkZ15b hyZ16))) ?_
     refine ZU (ZA cZ14 (ZA hkZ15a (ZA hkZ15b hyZ16))) (w_bp _ hrZ18) ?_
     refine ZG ?_
     obtain ⟨lZ19,hlZ19,h⟩:=bnd_s h
     have eZ20:Row.arr 1 [(.lst .u 1 (rZ18.map AV.i):AV)]=Row.arr 1 (lZ19.map (e_Li .u)):=by rw [← hlZ19]; rfl
     have jjZ21:lZ19.length=1:=by rw [← hlZ19]; rfl
     obtain ⟨uZ22,huZ22,h⟩:=bind_s h
     have huZ22g:=grd_s huZ22
     obtain ⟨lZ23,hlZ23,h⟩:=bnd_s h
     have eZ24:sZ6.2.1.map (e_Li .u)++lZ19.map (e_Li .u)=lZ23.map (e_Li .u):=by rw [← hlZ23,List.map_append]
     have eZ25:sZ6.2.1.length+1=lZ23.length:=by simp [← hlZ19,← hlZ23] <;> omega
     rw [eZ25] at huZ22g
     cases h
     exact ZL (ZA cZ14 (ZA hkZ15a (ZA hkZ15b (ZA hyZ16 (ZA eZ20 (ZA jjZ21 (ZA huZ22g (ZA eZ24 eZ25)))))))) (ZA S_be.eq_1 (ZA SX_be.eq_1 (ZA hlZ19.symm (ZA hlZ23.symm jjZ21))))
theorem w_cb (nZ0:TNetwork) {r:List (List Int)×Bool} (h:M_cb nZ0=some r):Ok Tryz.prog 18 [.agg [.lst .o 1 (nZ0.Nodes.map AV.z),.lst .o 4 (nZ0.Fibers.map (e_TFiber .o))]] ((fun r=>.tup [.lst .u 1 (r.1.map (e_Li .u)),.b r.2]) r):=by
 refine ok_of_body hmix m18 rfl ?_
 unfold M_cb at h
 simp only [ZC,A18,V18,body_eq]
 obtain ⟨rZ1,hrZ1,h⟩:=bind_s h
 refine ZF trivial ?_
 refine ZU trivial (w_dn _ hrZ1) ?_
 refine ZG ?_
 obtain ⟨cZ2,h⟩ | ⟨cZ2,h⟩:=cond_s h
 · cases h
   exact ZL cZ2 V18.eq_1
 · obtain ⟨uZ3,huZ3,h⟩:=bind_s h
   obtain ⟨huZ31,huZ32,huZ33,huZ34⟩:=grd_s huZ3
   obtain ⟨lZ4,hlZ4,h⟩:=bnd_s h
   have eZ5:List.replicate (Int.toNat (nZ0.Fibers.length:Int)) (.b false:AV)=lZ4.map AV.b:=by rw [← hlZ4,List.map_replicate]
   obtain ⟨oZ26,hoZ26,h⟩:=bind_s h
   try refine ZF (ZA cZ2 (ZA huZ31 (ZA huZ32 (ZA huZ33 (ZA huZ34 eZ5))))) ?_
   first | refine tail_rule (o:=oZ26) (blk_rule sideR (loop_rule (w_be nZ0 rZ1) hoZ26 ?_)) (fun vZ27 hv τ qZ29=>?_) (fun xZ28 hv e τ hne hq=>?_) | refine tail_blk (o:=oZ26) sideR (loop_rule (w_be nZ0 rZ1) hoZ26 ?_) (fun vZ27 hv τ qZ29=>?_) (fun xZ28 hv e τ hne hq=>?_)
   · exact ZK (ZA S_be.eq_1 (ZA SX_be.eq_1 (ZA hlZ4.symm @Zr)))
   · exact vZ27.elim
   · subst hv
     simp only [] at h
     obtain ⟨rfl,qZ30⟩:=hq
     cases h
     exact qZ30
def S_an (aZ0:List Int) (bZ0:List Int) (v:Int):St:=⟨[(0,.lst .o 1 (aZ0.map AV.i)),(1,.lst .o 1 (bZ0.map AV.i)),(5,.i v)],[]⟩
def SX_an (v:Unit):St:=⟨[],[]⟩
theorem w_an (aZ0:List Int) (bZ0:List Int) (sZ2:Int) (o:Int ⊕ (Unit ⊕ Bool)) (h:M_an aZ0 bZ0 sZ2=some o):AWP (OkS Tryz.prog) A12L1 (qL [0,1,5] [] (S_an aZ0 bZ0) (qS (qX 0 [] [] (SX_an)) (qR V12 (fun r=>.b r))) o) (S_an aZ0 bZ0 sZ2):=by
 unfold M_an at h
 simp only [ZC,S_an,A12L1]
 obtain ⟨cZ3,h⟩ | ⟨cZ3,h⟩:=cond_s h
 · obtain ⟨yZ4,hyZ4,h⟩:=bind_s h
   obtain ⟨hyZ4a,hyZ4b⟩:=geti_s hyZ4
   obtain ⟨yZ5,hyZ5,h⟩:=bind_s h
   obtain ⟨hyZ5a,hyZ5b⟩:=geti_s hyZ5
   obtain ⟨cZ6,h⟩ | ⟨cZ6,h⟩:=cond_s h
   · cases h
     exact ZL (ZA cZ3 (ZA hyZ4a (ZA hyZ4b (ZA hyZ5a (ZA hyZ5b cZ6))))) V12.eq_1
   · cases h
     exact ZL (ZA cZ3 (ZA hyZ4a (ZA hyZ4b (ZA hyZ5a (ZA hyZ5b cZ6))))) (ZA S_an.eq_1 SX_an.eq_1)
 · cases h
   exact ZL cZ3 (ZA S_an.eq_1 SX_an.eq_1)
theorem w_cg (aZ0:List Int) (bZ0:List Int) {r:Bool} (h:M_cg aZ0 bZ0=some r):Ok Tryz.prog 12 [.lst .o 1 (aZ0.map AV.i),.lst .o 1 (bZ0.map AV.i)] ((fun r=>.b r) r):=by
 refine ok_of_body hmix m12 rfl ?_
 unfold M_cg at h
 simp only [ZC,A12,V12,body_eq]
 obtain ⟨cZ1,h⟩ | ⟨cZ1,h⟩:=cond_s h
 · cases h
   exact ZL cZ1 V12.eq_1
 · obtain ⟨oZ7,hoZ7,h⟩:=bind_s h
   try refine ZF cZ1 ?_
   refine join_rule (o:=oZ7) (blk_rule sideR (loop_rule (w_an aZ0 bZ0) hoZ7 ?_)) (fun vZ8 hv=>?_) (fun xZ9 hv e τ hne hq=>?_)
   · exact ZK (ZA S_an.eq_1 SX_an.eq_1)
   · subst hv
     simp only [] at h
     simp only [ZC,SX_an,A12R2]
     cases h
     exact ZL cZ1 V12.eq_1
   · subst hv
     simp only [] at h
     obtain ⟨rfl,qZ10⟩:=hq
     cases h
     exact qZ10
def S_ao (aZ0:List (List Int)) (bZ0:List (List Int)) (v:Int):St:=⟨[(0,.lst .o 1 (aZ0.map (e_Li .o))),(1,.lst .o 1 (bZ0.map (e_Li .o))),(5,.i v)],[]⟩
def SX_ao (v:Unit):St:=⟨[],[]⟩
theorem w_ao (aZ0:List (List Int)) (bZ0:List (List Int)) (sZ2:Int) (o:Int ⊕ (Unit ⊕ Bool)) (h:M_ao aZ0 bZ0 sZ2=some o):AWP (OkS Tryz.prog) A19L1 (qL [0,1,5] [] (S_ao aZ0 bZ0) (qS (qX 0 [] [] (SX_ao)) (qR V19 (fun r=>.b r))) o) (S_ao aZ0 bZ0 sZ2):=by
 unfold M_ao at h
 simp only [ZC,S_ao,A19L1]
 obtain ⟨cZ3,h⟩ | ⟨cZ3,h⟩:=cond_s h
 · obtain ⟨yZ4,hyZ4,h⟩:=bind_s h
   obtain ⟨hyZ4a,hyZ4b⟩:=geti_s hyZ4
   obtain ⟨yZ5,hyZ5,h⟩:=bind_s h
   obtain ⟨hyZ5a,hyZ5b⟩:=geti_s hyZ5
   obtain ⟨rZ6,hrZ6,h⟩:=bind_s h
   refine ZF (ZA cZ3 (ZA hyZ4a (ZA hyZ4b (ZA hyZ5a hyZ5b)))) ?_
   refine ZS (ZA cZ3 (ZA hyZ4a (ZA hyZ4b (ZA hyZ5a hyZ5b)))) (w_cg _ _ hrZ6) ?_
   refine ZG ?_
   obtain ⟨cZ7,h⟩ | ⟨cZ7,h⟩:=cond_s h
   · cases h
     exact ZL (ZA cZ3 (ZA hyZ4a (ZA hyZ4b (ZA hyZ5a (ZA hyZ5b cZ7))))) V19.eq_1
   · cases h
     exact ZL (ZA cZ3 (ZA hyZ4a (ZA hyZ4b (ZA hyZ5a (ZA hyZ5b cZ7))))) (ZA S_ao.eq_1 SX_ao.eq_1)
 · cases h
   exact ZL cZ3 (ZA S_ao.eq_1 SX_ao.eq_1)
theorem w_bt (aZ0:List (List Int)) (bZ0:List (List Int)) {r:Bool} (h:M_bt aZ0 bZ0=some r):Ok Tryz.prog 19 [.lst .o 1 (aZ0.map (e_Li .o)),.lst .o 1 (bZ0.map (e_Li .o))] ((fun r=>.b r) r):=by
 refine ok_of_body hmix m19 rfl ?_
 unfold M_bt at h
 simp only [ZC,A19,V19,body_eq]
 obtain ⟨cZ1,h⟩ | ⟨cZ1,h⟩:=cond_s h
 · cases h
   exact ZL cZ1 V19.eq_1
 · obtain ⟨oZ8,hoZ8,h⟩:=bind_s h
   try refine ZF cZ1 ?_
   refine join_rule (o:=oZ8) (blk_rule sideR (loop_rule (w_ao aZ0 bZ0) hoZ8 ?_)) (fun vZ9 hv=>?_) (fun xZ10 hv e τ hne hq=>?_)
   · exact ZK (ZA S_ao.eq_1 SX_ao.eq_1)
   · subst hv
     simp only [] at h
     simp only [ZC,SX_ao,A19R2]
     cases h
     exact ZL cZ1 V19.eq_1
   · subst hv
     simp only [] at h
     obtain ⟨rfl,qZ11⟩:=hq
     cases h
     exact qZ11
def S_ap (aZ0:List ByteArray) (bZ0:List ByteArray) (v:Int):St:=⟨[(0,.lst .o 1 (aZ0.map AV.z)),(1,.lst .o 1 (bZ0.map AV.z)),(5,.i v)],[]⟩
def SX_ap (v:Unit):St:=⟨[],[]⟩
theorem w_ap (aZ0:List ByteArray) (bZ0:List ByteArray) (sZ2:Int) (o:Int ⊕ (Unit ⊕ Bool)) (h:M_ap aZ0 bZ0 sZ2=some o):AWP (OkS Tryz.prog) A49L1 (qL [0,1,5] [] (S_ap aZ0 bZ0) (qS (qX 0 [] [] (SX_ap)) (qR V49 (fun r=>.b r))) o) (S_ap aZ0 bZ0 sZ2):=by
 unfold M_ap at h
 simp only [ZC,S_ap,A49L1]
 obtain ⟨cZ3,h⟩ | ⟨cZ3,h⟩:=cond_s h
 · obtain ⟨yZ4,hyZ4,h⟩:=bind_s h
   obtain ⟨hyZ4a,hyZ4b⟩:=geti_s hyZ4
   obtain ⟨yZ5,hyZ5,h⟩:=bind_s h
   obtain ⟨hyZ5a,hyZ5b⟩:=geti_s hyZ5
   obtain ⟨cZ6,h⟩ | ⟨cZ6,h⟩:=cond_s h
   · cases h
     exact ZL (ZA cZ3 (ZA hyZ4a (ZA hyZ4b (ZA hyZ5a (ZA hyZ5b cZ6))))) V49.eq_1
   · cases h
     exact ZL (ZA cZ3 (ZA hyZ4a (ZA hyZ4b (ZA hyZ5a (ZA hyZ5b cZ6))))) (ZA S_ap.eq_1 SX_ap.eq_1)
 · cases h
   exact ZL cZ3 (ZA S_ap.eq_1 SX_ap.eq_1)
theorem w_dv (aZ0:List ByteArray) (bZ0:List ByteArray) {r:Bool} (h:M_dv aZ0 bZ0=some r):Ok Tryz.prog 49 [.lst .o 1 (aZ0.map AV.z),.lst .o 1 (bZ0.map AV.z)] ((fun r=>.b r) r):=by
 refine ok_of_body hmix m49 rfl ?_
 unfold M_dv at h
 simp only [ZC,A49,V49,body_eq]
 obtain ⟨cZ1,h⟩ | ⟨cZ1,h⟩:=cond_s h
 · cases h
   exact ZL cZ1 V49.eq_1
 · obtain ⟨oZ7,hoZ7,h⟩:=bind_s h
   try refine ZF cZ1 ?_
   refine join_rule (o:=oZ7) (blk_rule sideR (loop_rule (w_ap aZ0 bZ0) hoZ7 ?_)) (fun vZ8 hv=>?_) (fun xZ9 hv e τ hne hq=>?_)
   · exact ZK (ZA S_ap.eq_1 SX_ap.eq_1)
   · subst hv
     simp only [] at h
     simp only [ZC,SX_ap,A49R2]
     cases h
     exact ZL cZ1 V49.eq_1
   · subst hv
     simp only [] at h
     obtain ⟨rfl,qZ10⟩:=hq
     cases h
     exact qZ10
theorem w_ch (aZ0:TFiber) (bZ0:TFiber) {r:Bool} (h:M_ch aZ0 bZ0=some r):Ok Tryz.prog 94 [.agg [.i aZ0.A,.i aZ0.B,.i aZ0.Length,.i aZ0.Risk],.agg [.i bZ0.A,.i bZ0.B,.i bZ0.Length,.i bZ0.Risk]] ((fun r=>.b r) r):=by
 refine ok_of_body hmix m94 rfl ?_
 unfold M_ch at h
 simp only [ZC,A94,V94,body_eq]
 obtain ⟨cZ1,h⟩ | ⟨cZ1,h⟩:=cond_s h
 · cases h
   exact ZL cZ1 V94.eq_1
 · obtain ⟨cZ2,h⟩ | ⟨cZ2,h⟩:=cond_s h
   · cases h
     exact ZL (ZA cZ1 cZ2) V94.eq_1
   · obtain ⟨cZ3,h⟩ | ⟨cZ3,h⟩:=cond_s h
     · cases h
       exact ZL (ZA cZ1 (ZA cZ2 cZ3)) V94.eq_1
     · obtain ⟨cZ4,h⟩ | ⟨cZ4,h⟩:=cond_s h
       · cases h
         exact ZL (ZA cZ1 (ZA cZ2 (ZA cZ3 cZ4))) V94.eq_1
       · cases h
         exact ZL (ZA cZ1 (ZA cZ2 (ZA cZ3 cZ4))) V94.eq_1
def S_aq (aZ0:List TFiber) (bZ0:List TFiber) (v:Int):St:=⟨[(0,.lst .o 4 (aZ0.map (e_TFiber .o))),(1,.lst .o 4 (bZ0.map (e_TFiber .o))),(5,.i v)],[]⟩
def SX_aq (v:Unit):St:=⟨[],[]⟩
theorem w_aq (aZ0:List TFiber) (bZ0:List TFiber) (sZ2:Int) (o:Int ⊕ (Unit ⊕ Bool)) (h:M_aq aZ0 bZ0 sZ2=some o):AWP (OkS Tryz.prog) A50L1 (qL [0,1,5] [] (S_aq aZ0 bZ0) (qS (qX 0 [] [] (SX_aq)) (qR V50 (fun r=>.b r))) o) (S_aq aZ0 bZ0 sZ2):=by
 unfold M_aq at h
 simp only [ZC,S_aq,A50L1]
 obtain ⟨cZ3,h⟩ | ⟨cZ3,h⟩:=cond_s h
 · obtain ⟨yZ4,hyZ4,h⟩:=bind_s h
   obtain ⟨hyZ4a,hyZ4b⟩:=geti_s hyZ4
   obtain ⟨yZ5,hyZ5,h⟩:=bind_s h
   obtain ⟨hyZ5a,hyZ5b⟩:=geti_s hyZ5
   obtain ⟨rZ6,hrZ6,h⟩:=bind_s h
   refine ZF (ZA cZ3 (ZA hyZ4a (ZA hyZ4b (ZA hyZ5a hyZ5b)))) ?_
   refine ZS (ZA cZ3 (ZA hyZ4a (ZA hyZ4b (ZA hyZ5a hyZ5b)))) (w_ch _ _ hrZ6) ?_
   refine ZG ?_
   obtain ⟨cZ7,h⟩ | ⟨cZ7,h⟩:=cond_s h
   · cases h
     exact ZL (ZA cZ3 (ZA hyZ4a (ZA hyZ4b (ZA hyZ5a (ZA hyZ5b cZ7))))) V50.eq_1
   · cases h
     exact ZL (ZA cZ3 (ZA hyZ4a (ZA hyZ4b (ZA hyZ5a (ZA hyZ5b cZ7))))) (ZA S_aq.eq_1 SX_aq.eq_1)
 · cases h
   exact ZL cZ3 (ZA S_aq.eq_1 SX_aq.eq_1)
theorem w_dw (aZ0:List TFiber) (bZ0:List TFiber) {r:Bool} (h:M_dw aZ0 bZ0=some r):Ok Tryz.prog 50 [.lst .o 4 (aZ0.map (e_TFiber .o)),.lst .o 4 (bZ0.map (e_TFiber .o))] ((fun r=>.b r) r):=by
 refine ok_of_body hmix m50 rfl ?_
 unfold M_dw at h
 simp only [ZC,A50,V50,body_eq]
 obtain ⟨cZ1,h⟩ | ⟨cZ1,h⟩:=cond_s h
 · cases h
   exact ZL cZ1 V50.eq_1
 · obtain ⟨oZ8,hoZ8,h⟩:=bind_s h
   try refine ZF cZ1 ?_
   refine join_rule (o:=oZ8) (blk_rule sideR (loop_rule (w_aq aZ0 bZ0) hoZ8 ?_)) (fun vZ9 hv=>?_) (fun xZ10 hv e τ hne hq=>?_)
   · exact ZK (ZA S_aq.eq_1 SX_aq.eq_1)
   · subst hv
     simp only [] at h
     simp only [ZC,SX_aq,A50R2]
     cases h
     exact ZL cZ1 V50.eq_1
   · subst hv
     simp only [] at h
     obtain ⟨rfl,qZ11⟩:=hq
     cases h
     exact qZ11
theorem w_dx (aZ0:TNetwork) (bZ0:TNetwork) {r:Bool} (h:M_dx aZ0 bZ0=some r):Ok Tryz.prog 13 [.agg [.lst .o 1 (aZ0.Nodes.map AV.z),.lst .o 4 (aZ0.Fibers.map (e_TFiber .o))],.agg [.lst .o 1 (bZ0.Nodes.map AV.z),.lst .o 4 (bZ0.Fibers.map (e_TFiber .o))]] ((fun r=>.b r) r):=by
 refine ok_of_body hmix m13 rfl ?_
 unfold M_dx at h
 simp only [ZC,A13,V13,body_eq]
 obtain ⟨rZ1,hrZ1,h⟩:=bind_s h
 refine ZF trivial ?_
 refine ZS trivial (w_dv _ _ hrZ1) ?_
 refine ZG ?_
 obtain ⟨cZ2,h⟩ | ⟨cZ2,h⟩:=cond_s h
 · cases h
   exact ZL cZ2 V13.eq_1
 · obtain ⟨rZ3,hrZ3,h⟩:=bind_s h
   refine ZF cZ2 ?_
   refine ZS cZ2 (w_dw _ _ hrZ3) ?_
   refine ZG ?_
   obtain ⟨cZ4,h⟩ | ⟨cZ4,h⟩:=cond_s h
   · cases h
     exact ZL (ZA cZ2 cZ4) V13.eq_1
   · cases h
     exact ZL (ZA cZ2 cZ4) V13.eq_1
def S_ar (v:Int×ByteArray):St:=⟨[(0,.i v.1),(3,.z v.2)],[]⟩
def SX_ar (v:ByteArray):St:=⟨[(3,.z v)],[]⟩
theorem w_ar (sZ2:Int×ByteArray) (o:(Int×ByteArray) ⊕ ByteArray) (h:M_ar sZ2=some o):AWP (OkS Tryz.prog) A95L1 (qL [0,3] [] (S_ar) (qX 0 [3] [] (SX_ar)) o) (S_ar sZ2):=by
 unfold M_ar at h
 simp only [ZC,S_ar,A95L1]
 obtain ⟨cZ3,h⟩ | ⟨cZ3,h⟩:=cond_s h
 · obtain ⟨uZ4,huZ4,h⟩:=bind_s h
   have huZ4g:=grd_s huZ4
   obtain ⟨lZ5,hlZ5,h⟩:=bnd_s h
   have eZ6:Row.arr 1 [(.sc (.int .u8 (IntKind.wrap .u8 (IntKind.wrap .i64 (48+(Int.tmod sZ2.1 10))))):AV)]=Row.arr 1 (lZ5.map AV.u8):=by rw [← hlZ5]; rfl
   have jjZ7:lZ5.length=1:=by rw [← hlZ5]; rfl
   have nZ8:sub (lZ5.map AV.u8) 0 1=lZ5.map AV.u8:=sub_n _ (by simp [← hlZ5])
   obtain ⟨uZ9,huZ9,h⟩:=bind_s h
   have huZ9g:=grd_s huZ9
   obtain ⟨uZ10,huZ10,h⟩:=bind_s h
   have huZ10g:=grd_s huZ10
   cases h
   exact ZL (ZA cZ3 (ZA huZ4g (ZA eZ6 (ZA jjZ7 (ZA nZ8 (ZA huZ9g huZ10g)))))) (ZA S_ar.eq_1 (ZA SX_ar.eq_1 (ZA hlZ5.symm jjZ7)))
 · cases h
   exact ZL cZ3 (ZA S_ar.eq_1 SX_ar.eq_1)
theorem w_cc (kZ0:Int) {r:ByteArray} (h:M_cc kZ0=some r):Ok Tryz.prog 95 [.i kZ0] ((fun r=>.z r) r):=by
 refine ok_of_body hmix m95 rfl ?_
 unfold M_cc at h
 simp only [ZC,A95,V95,body_eq]
 obtain ⟨cZ1,h⟩ | ⟨cZ1,h⟩:=cond_s h
 · cases h
   exact ZL cZ1 V95.eq_1
 · obtain ⟨oZ11,hoZ11,h⟩:=bind_s h
   try refine ZF cZ1 ?_
   refine join_rule0 (blk_rule0 (loop_rule (w_ar) hoZ11 ?_)) ?_
   · exact ZK (ZA S_ar.eq_1 SX_ar.eq_1)
   · simp only [ZC,SX_ar,A95R2]
     obtain ⟨uZ12,huZ12,h⟩:=bind_s h
     have huZ12g:=grd_s huZ12
     cases h
     exact ZL (ZA cZ1 huZ12g) V95.eq_1
def S_as (v:Int×Int×List ByteArray):St:=⟨[(0,.sl 1000000000 0 v.2.2.length),(1,.i v.1),(5,.i v.2.1)],[(1000000000,.arr 1 (v.2.2.map AV.z))]⟩
def SX_as (v:Int×List ByteArray):St:=⟨[(1,.i v.1)],[(1000000000,.arr 1 (v.2.map AV.z))]⟩
theorem w_as (sZ1:Int×Int×List ByteArray) (o:(Int×Int×List ByteArray) ⊕ (Int×List ByteArray)) (h:M_as sZ1=some o):AWP (OkS Tryz.prog) A51M1L1 (qL [0,1,5] [1000000000] (S_as) (qX 0 [1] [1000000000] (SX_as)) o) (S_as sZ1):=by
 unfold M_as at h
 simp only [ZC,S_as,A51M1L1]
 obtain ⟨cZ2,h⟩ | ⟨cZ2,h⟩:=cond_s h
 · obtain ⟨rZ3,hrZ3,h⟩:=bind_s h
   refine ZF cZ2 ?_
   refine ZS cZ2 (w_cc _ hrZ3) ?_
   refine ZG ?_
   obtain ⟨kZ4,hkZ4,h⟩:=bind_s h
   obtain ⟨hkZ4a,hkZ4b⟩:=grd_s hkZ4
   obtain ⟨yZ5,hyZ5,h⟩:=bind_s h
   obtain ⟨lZ6,hlZ6,h⟩:=bnd_s h
   have eZ7:(sZ1.2.2.map AV.z).set (Int.toNat sZ1.2.1) (.z rZ3)=lZ6.map AV.z:=by rw [← hlZ6,List.map_set]
   cases h
   exact ZL (ZA cZ2 (ZA hkZ4a (ZA hkZ4b (ZA hyZ5 eZ7)))) (ZA S_as.eq_1 (ZA SX_as.eq_1 hlZ6.symm))
 · cases h
   exact ZL cZ2 (ZA S_as.eq_1 SX_as.eq_1)
theorem w_dy (aaZ0:Int) (abZ0:List ByteArray) {r:Int×List ByteArray} (h:M_dy aaZ0 abZ0=some r):OkM Tryz.prog 51 [.sl 1000000000 0 abZ0.length,.i aaZ0] [(1000000000,.arr 1 (abZ0.map AV.z))] ((fun (r:Int×List ByteArray)=>.i r.1) r) ((fun (r:Int×List ByteArray)=>[(1000000000,.arr 1 (r.2.map AV.z))]) r):=by
 refine okM_of_body (lr:=[1000000000]) hmix m51M1 rfl rfl ?_
 unfold M_dy at h
 simp only [ZC,A51M1,V51M1]
 obtain ⟨oZ8,hoZ8,h⟩:=bind_s h
 try refine ZF trivial ?_
 refine join_rule0 (blk_rule0 (loop_rule (w_as) hoZ8 ?_)) ?_
 · exact ZK (ZA S_as.eq_1 SX_as.eq_1)
 · simp only [ZC,SX_as,A51M1R2]
   cases h
   exact ZL trivial V51M1.eq_1
def S_at (v:Int×Int×List TFiber):St:=⟨[(0,.sl 1000000000 0 v.2.2.length),(1,.i v.1),(5,.i v.2.1)],[(1000000000,.arr 4 (v.2.2.map (e_TFiber .u)))]⟩
def SX_at (v:Int×List TFiber):St:=⟨[(1,.i v.1)],[(1000000000,.arr 4 (v.2.map (e_TFiber .u)))]⟩
theorem w_at (sZ1:Int×Int×List TFiber) (o:(Int×Int×List TFiber) ⊕ (Int×List TFiber)) (h:M_at sZ1=some o):AWP (OkS Tryz.prog) A52M1L1 (qL [0,1,5] [1000000000] (S_at) (qX 0 [1] [1000000000] (SX_at)) o) (S_at sZ1):=by
 unfold M_at at h
 simp only [ZC,S_at,A52M1L1]
 obtain ⟨cZ2,h⟩ | ⟨cZ2,h⟩:=cond_s h
 · obtain ⟨kZ3,hkZ3,h⟩:=bind_s h
   obtain ⟨hkZ3a,hkZ3b⟩:=grd_s hkZ3
   obtain ⟨yZ4,hyZ4,h⟩:=bind_s h
   obtain ⟨lZ5,hlZ5,h⟩:=bnd_s h
   have eZ6:(sZ1.2.2.map (e_TFiber .u)).set (Int.toNat sZ1.2.1) (.agg [.i sZ1.1,.i yZ4.B,.i yZ4.Length,.i yZ4.Risk])=lZ5.map (e_TFiber .u):=by rw [← hlZ5,List.map_set]; rfl
   obtain ⟨yZ7,hyZ7,h⟩:=bind_s h
   obtain ⟨lZ8,hlZ8,h⟩:=bnd_s h
   have eZ9:(lZ5.map (e_TFiber .u)).set (Int.toNat sZ1.2.1) (.agg [.i yZ7.A,.i (IntKind.wrap .i64 (sZ1.1+1)),.i yZ7.Length,.i yZ7.Risk])=lZ8.map (e_TFiber .u):=by rw [← hlZ8,List.map_set]; rfl
   obtain ⟨yZ10,hyZ10,h⟩:=bind_s h
   obtain ⟨lZ11,hlZ11,h⟩:=bnd_s h
   have eZ12:(lZ8.map (e_TFiber .u)).set (Int.toNat sZ1.2.1) (.agg [.i yZ10.A,.i yZ10.B,.i (IntKind.wrap .i64 ((IntKind.wrap .i64 (sZ1.1+1))+1)),.i yZ10.Risk])=lZ11.map (e_TFiber .u):=by rw [← hlZ11,List.map_set]; rfl
   obtain ⟨yZ13,hyZ13,h⟩:=bind_s h
   obtain ⟨lZ14,hlZ14,h⟩:=bnd_s h
   have eZ15:(lZ11.map (e_TFiber .u)).set (Int.toNat sZ1.2.1) (.agg [.i yZ13.A,.i yZ13.B,.i yZ13.Length,.i (IntKind.wrap .i64 ((IntKind.wrap .i64 ((IntKind.wrap .i64 (sZ1.1+1))+1))+1))])=lZ14.map (e_TFiber .u):=by rw [← hlZ14,List.map_set]; rfl
   cases h
   exact ZL (ZA cZ2 (ZA hkZ3a (ZA hkZ3b (ZA hyZ4 (ZA eZ6 (ZA hyZ7 (ZA eZ9 (ZA hyZ10 (ZA eZ12 (ZA hyZ13 eZ15)))))))))) (ZA S_at.eq_1 (ZA SX_at.eq_1 (ZA hlZ5.symm (ZA hlZ8.symm (ZA hlZ11.symm hlZ14.symm)))))
 · cases h
   exact ZL cZ2 (ZA S_at.eq_1 SX_at.eq_1)
theorem w_dz (aaZ0:Int) (abZ0:List TFiber) {r:Int×List TFiber} (h:M_dz aaZ0 abZ0=some r):OkM Tryz.prog 52 [.sl 1000000000 0 abZ0.length,.i aaZ0] [(1000000000,.arr 4 (abZ0.map (e_TFiber .u)))] ((fun (r:Int×List TFiber)=>.i r.1) r) ((fun (r:Int×List TFiber)=>[(1000000000,.arr 4 (r.2.map (e_TFiber .u)))]) r):=by
 refine okM_of_body (lr:=[1000000000]) hmix m52M1 rfl rfl ?_
 unfold M_dz at h
 simp only [ZC,A52M1,V52M1]
 obtain ⟨oZ16,hoZ16,h⟩:=bind_s h
 try refine ZF trivial ?_
 refine join_rule0 (blk_rule0 (loop_rule (w_at) hoZ16 ?_)) ?_
 · exact ZK (ZA S_at.eq_1 SX_at.eq_1)
 · simp only [ZC,SX_at,A52M1R2]
   cases h
   exact ZL trivial V52M1.eq_1
theorem w_ea (aaZ0:Int) (abZ0:List ByteArray) (acZ0:List TFiber) {r:Int×List ByteArray×List TFiber} (h:M_ea aaZ0 abZ0 acZ0=some r):OkM Tryz.prog 14 [.agg [.sl 1000000000 0 abZ0.length,.sl 1000000001 0 acZ0.length],.i aaZ0] [(1000000000,.arr 1 (abZ0.map AV.z)),(1000000001,.arr 4 (acZ0.map (e_TFiber .u)))] ((fun (r:Int×List ByteArray×List TFiber)=>.i r.1) r) ((fun (r:Int×List ByteArray×List TFiber)=>[(1000000000,.arr 1 (r.2.1.map AV.z)),(1000000001,.arr 4 (r.2.2.map (e_TFiber .u)))]) r):=by
 refine okM_of_body (lr:=[1000000000,1000000001]) hmix m14M1 rfl rfl ?_
 unfold M_ea at h
 simp only [ZC,A14M1,V14M1]
 obtain ⟨rZ1,hrZ1,h⟩:=bind_s h
 refine ZF trivial ?_
 refine ZW trivial (w_dy _ _ hrZ1) (h2:=by first | exact nm_ok [1000000000] rfl (by decide +kernel) | exact nm_ok2 [1000000000] [] rfl (by decide +kernel) ZQ | exact ZQ) (hk:=?_)
 refine ZG ?_
 obtain ⟨rZ2,hrZ2,h⟩:=bind_s h
 refine ZF trivial ?_
 refine ZW trivial (w_dz _ _ hrZ2) (h2:=by first | exact nm_ok [1000000000] rfl (by decide +kernel) | exact nm_ok2 [1000000000] [] rfl (by decide +kernel) ZQ | exact ZQ) (hk:=?_)
 refine ZG ?_
 cases h
 exact ZL trivial V14M1.eq_1
def S_au (v:Int×Int×List Int):St:=⟨[(0,.sl 1000000000 0 v.2.2.length),(1,.i v.1),(5,.i v.2.1)],[(1000000000,.arr 1 (v.2.2.map AV.i))]⟩
def SX_au (v:Int×List Int):St:=⟨[(1,.i v.1)],[(1000000000,.arr 1 (v.2.map AV.i))]⟩
theorem w_au (sZ1:Int×Int×List Int) (o:(Int×Int×List Int) ⊕ (Int×List Int)) (h:M_au sZ1=some o):AWP (OkS Tryz.prog) A15M1L1 (qL [0,1,5] [1000000000] (S_au) (qX 0 [1] [1000000000] (SX_au)) o) (S_au sZ1):=by
 unfold M_au at h
 simp only [ZC,S_au,A15M1L1]
 obtain ⟨cZ2,h⟩ | ⟨cZ2,h⟩:=cond_s h
 · obtain ⟨kZ3,hkZ3,h⟩:=bind_s h
   obtain ⟨hkZ3a,hkZ3b⟩:=grd_s hkZ3
   obtain ⟨yZ4,hyZ4,h⟩:=bind_s h
   obtain ⟨lZ5,hlZ5,h⟩:=bnd_s h
   have eZ6:(sZ1.2.2.map AV.i).set (Int.toNat sZ1.2.1) (.i sZ1.1)=lZ5.map AV.i:=by rw [← hlZ5,List.map_set]
   cases h
   exact ZL (ZA cZ2 (ZA hkZ3a (ZA hkZ3b (ZA hyZ4 eZ6)))) (ZA S_au.eq_1 (ZA SX_au.eq_1 hlZ5.symm))
 · cases h
   exact ZL cZ2 (ZA S_au.eq_1 SX_au.eq_1)
theorem w_eb (aaZ0:Int) (abZ0:List Int) {r:Int×List Int} (h:M_eb aaZ0 abZ0=some r):OkM Tryz.prog 15 [.sl 1000000000 0 abZ0.length,.i aaZ0] [(1000000000,.arr 1 (abZ0.map AV.i))] ((fun (r:Int×List Int)=>.i r.1) r) ((fun (r:Int×List Int)=>[(1000000000,.arr 1 (r.2.map AV.i))]) r):=by
 refine okM_of_body (lr:=[1000000000]) hmix m15M1 rfl rfl ?_
 unfold M_eb at h
 simp only [ZC,A15M1,V15M1]
 obtain ⟨oZ7,hoZ7,h⟩:=bind_s h
 try refine ZF trivial ?_
 refine join_rule0 (blk_rule0 (loop_rule (w_au) hoZ7 ?_)) ?_
 · exact ZK (ZA S_au.eq_1 SX_au.eq_1)
 · simp only [ZC,SX_au,A15M1R2]
   cases h
   exact ZL trivial V15M1.eq_1
def S_av (v:Int×Int×List (List Int)):St:=⟨[(0,.sl 1000000000 0 v.2.2.length),(1,.i v.1),(5,.i v.2.1)],[(1000000000,.arr 1 (v.2.2.map (e_Li .u)))]⟩
def SX_av (v:Int×List (List Int)):St:=⟨[(1,.i v.1)],[(1000000000,.arr 1 (v.2.map (e_Li .u)))]⟩
theorem w_av (sZ1:Int×Int×List (List Int)) (o:(Int×Int×List (List Int)) ⊕ (Int×List (List Int))) (h:M_av sZ1=some o):AWP (OkS Tryz.prog) A20M1L1 (qL [0,1,5] [1000000000] (S_av) (qX 0 [1] [1000000000] (SX_av)) o) (S_av sZ1):=by
 unfold M_av at h
 simp only [ZC,S_av,A20M1L1]
 obtain ⟨cZ2,h⟩ | ⟨cZ2,h⟩:=cond_s h
 · obtain ⟨kZ3,hkZ3,h⟩:=bind_s h
   obtain ⟨hkZ3a,hkZ3b⟩:=grd_s hkZ3
   obtain ⟨yZ4,hyZ4,h⟩:=bind_s h
   obtain ⟨rZ5,hrZ5,h⟩:=bind_s h
   obtain ⟨lZ6,hlZ6,h⟩:=bnd_s h
   have eZ7:(sZ1.2.2.map (e_Li .u)).set (Int.toNat sZ1.2.1) (.lst .u 1 (rZ5.2.map AV.i))=lZ6.map (e_Li .u):=by rw [← hlZ6,List.map_set]; rfl
   refine ZF (ZA cZ2 (ZA hkZ3a (ZA hkZ3b hyZ4))) ?_
   refine inn_s (v:=.int .i64 rZ5.1) (ys':=rZ5.2.map AV.i) (z:=.lst .u 1 (rZ5.2.map AV.i)) (by simp only [VS1,VS2,VS3,VS4,VS5,VS6,VT1,VT2,finM_ret,finM_nrm,decide_true,decide_false,List.nodup_nil,List.nodup_cons,oks_p,oks_m,oks_h,ne_eq,not_false_eq_true,Int.reduceEq,Int.reduceNe,true_and,false_and,Nat.reduceSub,Nat.reduceMul,↓reduceIte,reduceCtorEq,Nat.reduceEqDiff,Nat.reduceAdd,Nat.reduceLeDiff,Int.reduceLE,cZ2,hkZ3a,hkZ3b,hyZ4]; exact w_eb _ _ hrZ5) (by simp [AV.flat,VT1,VT2]) (by simp [fz_mk,fz_bpo,fz_sc,fz_lsto,fz_agg,fz_tup,fz_fn,fz_sl,fz_pt,fz_top,fzL_nil,fzL_cons,ou_sc,ou_lstu,ou_lsto,ou_agg,ouL_nil,ouL_cons,rfz_var,rfz_arr,rfz_dead,fzL_mi,fzL_mb,fzL_mz,fzL_m8,fzL_m64,ouL_m8,ouL_m64,ouL_mi,ouL_mb,ouL_mz,VZ1]) (by simp [VS1,VS2,VS3,VS4,VS5,VS6,VT1,VT2]) (by simp [AV.flat,VT1,VT2]) rfl ?_
   refine ZG ?_
   cases h
   exact ZL (ZA cZ2 (ZA hkZ3a (ZA hkZ3b (ZA hyZ4 eZ7)))) (ZA S_av.eq_1 (ZA SX_av.eq_1 hlZ6.symm))
 · cases h
   exact ZL cZ2 (ZA S_av.eq_1 SX_av.eq_1)
theorem w_ci (aaZ0:Int) (abZ0:List (List Int)) {r:Int×List (List Int)} (h:M_ci aaZ0 abZ0=some r):OkH Tryz.prog 20 [.sl 1000000000 0 abZ0.length,.i aaZ0] [(1000000000,.arr 1 (abZ0.map (e_Li .u)))] ((fun (r:Int×List (List Int))=>.i r.1) r) ((fun (r:Int×List (List Int))=>[(1000000000,.arr 1 (r.2.map (e_Li .u)))]) r):=by
 refine okH_of_body (lr:=[1000000000]) hmix m20M1 rfl ?_
 unfold M_ci at h
 simp only [ZC,A20M1,V20M1]
 obtain ⟨oZ8,hoZ8,h⟩:=bind_s h
 try refine ZF trivial ?_
 refine join_rule0 (blk_rule0 (loop_rule (w_av) hoZ8 ?_)) ?_
 · exact ZK (ZA S_av.eq_1 SX_av.eq_1)
 · simp only [ZC,SX_av,A20M1R2]
   cases h
   exact ZL trivial V20M1.eq_1
def S_aw (aZ0:List Int) (v:Int×Int):St:=⟨[(0,.lst .o 1 (aZ0.map AV.i)),(1,.i v.1),(5,.i v.2)],[]⟩
def SX_aw (v:Int):St:=⟨[(1,.i v)],[]⟩
theorem w_aw (aZ0:List Int) (sZ1:Int×Int) (o:(Int×Int) ⊕ (Int ⊕ Int)) (h:M_aw aZ0 sZ1=some o):AWP (OkS Tryz.prog) A16L1 (qL [0,1,5] [] (S_aw aZ0) (qS (qX 0 [1] [] (SX_aw)) (qR V16 (fun r=>.i r))) o) (S_aw aZ0 sZ1):=by
 unfold M_aw at h
 simp only [ZC,S_aw,A16L1]
 obtain ⟨cZ2,h⟩ | ⟨cZ2,h⟩:=cond_s h
 · obtain ⟨yZ3,hyZ3,h⟩:=bind_s h
   obtain ⟨hyZ3a,hyZ3b⟩:=geti_s hyZ3
   obtain ⟨cZ4,h⟩ | ⟨cZ4,h⟩:=cond_s h
   · cases h
     exact ZL (ZA cZ2 (ZA hyZ3a (ZA hyZ3b cZ4))) V16.eq_1
   · cases h
     exact ZL (ZA cZ2 (ZA hyZ3a (ZA hyZ3b cZ4))) (ZA S_aw.eq_1 SX_aw.eq_1)
 · cases h
   exact ZL cZ2 (ZA S_aw.eq_1 SX_aw.eq_1)
theorem w_cj (aZ0:List Int) (kZ0:Int) {r:Int} (h:M_cj aZ0 kZ0=some r):Ok Tryz.prog 16 [.lst .o 1 (aZ0.map AV.i),.i kZ0] ((fun r=>.i r) r):=by
 refine ok_of_body hmix m16 rfl ?_
 unfold M_cj at h
 simp only [ZC,A16,V16,body_eq]
 obtain ⟨oZ5,hoZ5,h⟩:=bind_s h
 try refine ZF trivial ?_
 refine join_rule (o:=oZ5) (blk_rule sideR (loop_rule (w_aw aZ0) hoZ5 ?_)) (fun vZ6 hv=>?_) (fun xZ7 hv e τ hne hq=>?_)
 · exact ZK (ZA S_aw.eq_1 SX_aw.eq_1)
 · subst hv
   simp only [] at h
   simp only [ZC,SX_aw,A16R2]
   cases h
   exact ZL trivial V16.eq_1
 · subst hv
   simp only [] at h
   obtain ⟨rfl,qZ8⟩:=hq
   cases h
   exact qZ8
def S_ax (aZ0:List (List Int)) (v:Int×Int):St:=⟨[(0,.lst .o 1 (aZ0.map (e_Li .o))),(1,.i v.1),(5,.i v.2)],[]⟩
def SX_ax (v:Int):St:=⟨[(1,.i v)],[]⟩
theorem w_ax (aZ0:List (List Int)) (sZ1:Int×Int) (o:(Int×Int) ⊕ (Int ⊕ Int)) (h:M_ax aZ0 sZ1=some o):AWP (OkS Tryz.prog) A21L1 (qL [0,1,5] [] (S_ax aZ0) (qS (qX 0 [1] [] (SX_ax)) (qR V21 (fun r=>.i r))) o) (S_ax aZ0 sZ1):=by
 unfold M_ax at h
 simp only [ZC,S_ax,A21L1]
 obtain ⟨cZ2,h⟩ | ⟨cZ2,h⟩:=cond_s h
 · obtain ⟨yZ3,hyZ3,h⟩:=bind_s h
   obtain ⟨hyZ3a,hyZ3b⟩:=geti_s hyZ3
   obtain ⟨rZ4,hrZ4,h⟩:=bind_s h
   refine ZF (ZA cZ2 (ZA hyZ3a hyZ3b)) ?_
   refine ZS (ZA cZ2 (ZA hyZ3a hyZ3b)) (w_cj _ _ hrZ4) ?_
   refine ZG ?_
   obtain ⟨cZ5,h⟩ | ⟨cZ5,h⟩:=cond_s h
   · cases h
     exact ZL (ZA cZ2 (ZA hyZ3a (ZA hyZ3b cZ5))) V21.eq_1
   · cases h
     exact ZL (ZA cZ2 (ZA hyZ3a (ZA hyZ3b cZ5))) (ZA S_ax.eq_1 SX_ax.eq_1)
 · cases h
   exact ZL cZ2 (ZA S_ax.eq_1 SX_ax.eq_1)
theorem w_cd (aZ0:List (List Int)) (kZ0:Int) {r:Int} (h:M_cd aZ0 kZ0=some r):Ok Tryz.prog 21 [.lst .o 1 (aZ0.map (e_Li .o)),.i kZ0] ((fun r=>.i r) r):=by
 refine ok_of_body hmix m21 rfl ?_
 unfold M_cd at h
 simp only [ZC,A21,V21,body_eq]
 obtain ⟨oZ6,hoZ6,h⟩:=bind_s h
 try refine ZF trivial ?_
 refine join_rule (o:=oZ6) (blk_rule sideR (loop_rule (w_ax aZ0) hoZ6 ?_)) (fun vZ7 hv=>?_) (fun xZ8 hv e τ hne hq=>?_)
 · exact ZK (ZA S_ax.eq_1 SX_ax.eq_1)
 · subst hv
   simp only [] at h
   simp only [ZC,SX_ax,A21R2]
   cases h
   exact ZL trivial V21.eq_1
 · subst hv
   simp only [] at h
   obtain ⟨rfl,qZ9⟩:=hq
   cases h
   exact qZ9
theorem w_eg (aNZ0:TNetwork) {r:Bool} (h:M_eg aNZ0=some r):Ok Tryz.prog 4 [.agg [.lst .o 1 (aNZ0.Nodes.map AV.z),.lst .o 4 (aNZ0.Fibers.map (e_TFiber .o))]] ((fun r=>.b r) r):=by
 refine ok_of_body hmix m4 rfl ?_
 unfold M_eg at h
 simp only [ZC,A4,V4,body_eq]
 obtain ⟨rZ1,hrZ1,h⟩:=bind_s h
 refine ZF trivial ?_
 refine ZS trivial (w_cm _ _ hrZ1) ?_
 refine ZG ?_
 obtain ⟨cZ2,h⟩ | ⟨cZ2,h⟩:=cond_s h
 · cases h
   exact ZL cZ2 V4.eq_1
 · obtain ⟨rZ3,hrZ3,h⟩:=bind_s h
   refine ZF cZ2 ?_
   refine ZU cZ2 (w_bj _ hrZ3) ?_
   refine ZG ?_
   obtain ⟨rZ4,hrZ4,h⟩:=bind_s h
   refine ZF cZ2 ?_
   refine ZU cZ2 (w_dd _ hrZ4) ?_
   refine ZG ?_
   obtain ⟨rZ5,hrZ5,h⟩:=bind_s h
   refine ZF cZ2 ?_
   refine ZU cZ2 (w_bj _ hrZ5) ?_
   refine ZG ?_
   obtain ⟨rZ6,hrZ6,h⟩:=bind_s h
   refine ZF cZ2 ?_
   refine ZU cZ2 (w_cb _ hrZ6) ?_
   refine ZG ?_
   obtain ⟨oZ9,hoZ9,h⟩:=bind_s h
   try refine ZF cZ2 ?_
   refine join_rule0 (sh:=(fun v=>⟨[(1,.pt 1 0 0),(4,.sl 4 0 rZ4.1.length),(5,.b rZ4.2),(6,.pt 6 0 0),(7,.sl 7 0 rZ6.1.length),(8,.b rZ6.2),(40,.b v)],[(1,.var (.agg [.lst .o 1 (aNZ0.Nodes.map AV.z),.lst .o 4 (aNZ0.Fibers.map (e_TFiber .o))])),(4,.arr 1 (rZ4.1.map (e_Li .u))),(6,.var (.agg [.sl 26 0 rZ5.Nodes.length,.sl 1026 0 rZ5.Fibers.length])),(7,.arr 1 (rZ6.1.map (e_Li .u))),(26,.arr 1 (rZ5.Nodes.map AV.z)),(1026,.arr 4 (rZ5.Fibers.map (e_TFiber .u)))]⟩)) (s:=oZ9) ?_ ?_
   · replace h:=hoZ9
     obtain ⟨rZ7,hrZ7,h⟩:=bind_s h
     refine ZF cZ2 ?_
     refine ZS cZ2 (w_bt _ _ hrZ7) ?_
     refine ZG ?_
     obtain ⟨cZ8,h⟩ | ⟨cZ8,h⟩:=cond_s h
     · cases h
       exact ZL (ZA cZ2 cZ8) trivial
     · cases h
       exact ZL (ZA cZ2 cZ8) trivial
   · simp only [ZC,A4R1]
     obtain ⟨cZ10,h⟩ | ⟨cZ10,h⟩:=cond_s h
     · cases h
       exact ZL (ZA cZ2 cZ10) V4.eq_1
     · obtain ⟨rZ11,hrZ11,h⟩:=bind_s h
       refine ZF (ZA cZ2 cZ10) ?_
       refine ZU (ZA cZ2 cZ10) (w_bj _ hrZ11) ?_
       refine ZG ?_
       obtain ⟨rZ12,hrZ12,h⟩:=bind_s h
       refine ZF (ZA cZ2 cZ10) ?_
       refine ZS (ZA cZ2 cZ10) (w_dx _ _ hrZ12) ?_
       refine ZG ?_
       obtain ⟨cZ13,h⟩ | ⟨cZ13,h⟩:=cond_s h
       · cases h
         exact ZL (ZA cZ2 (ZA cZ10 cZ13)) V4.eq_1
       · obtain ⟨rZ14,hrZ14,h⟩:=bind_s h
         refine ZF (ZA cZ2 (ZA cZ10 cZ13)) ?_
         refine ZW (ZA cZ2 (ZA cZ10 cZ13)) (w_ea _ _ _ hrZ14) (h2:=by first | exact nm_ok [1000000000,1000000001] rfl (by decide +kernel) | exact nm_ok2 [1000000000,1000000001] [] rfl (by decide +kernel) ZQ | exact ZQ) (hk:=?_)
         refine ZG ?_
         obtain ⟨oZ18,hoZ18,h⟩:=bind_s h
         try refine ZF (ZA cZ2 (ZA cZ10 cZ13)) ?_
         refine join_rule0 (sh:=(fun v=>⟨[(1,.pt 1 0 0),(4,.sl 4 0 rZ4.1.length),(5,.b rZ4.2),(7,.sl 7 0 rZ6.1.length),(61,.b v)],[(1,.var (.agg [.lst .o 1 (aNZ0.Nodes.map AV.z),.lst .o 4 (aNZ0.Fibers.map (e_TFiber .o))])),(4,.arr 1 (rZ4.1.map (e_Li .u))),(7,.arr 1 (rZ6.1.map (e_Li .u)))]⟩)) (s:=oZ18) ?_ ?_
         · replace h:=hoZ18
           obtain ⟨cZ15,h⟩ | ⟨cZ15,h⟩:=cond_s h
           · cases h
             exact ZL (ZA cZ2 (ZA cZ10 (ZA cZ13 cZ15))) trivial
           · obtain ⟨rZ16,hrZ16,h⟩:=bind_s h
             refine ZF (ZA cZ2 (ZA cZ10 (ZA cZ13 cZ15))) ?_
             refine ZS (ZA cZ2 (ZA cZ10 (ZA cZ13 cZ15))) (w_bt _ _ hrZ16) ?_
             refine ZG ?_
             obtain ⟨cZ17,h⟩ | ⟨cZ17,h⟩:=cond_s h
             · cases h
               exact ZL (ZA cZ2 (ZA cZ10 (ZA cZ13 (ZA cZ15 cZ17)))) trivial
             · cases h
               exact ZL (ZA cZ2 (ZA cZ10 (ZA cZ13 (ZA cZ15 cZ17)))) trivial
         · simp only [ZC,A4R2]
           obtain ⟨cZ19,h⟩ | ⟨cZ19,h⟩:=cond_s h
           · cases h
             exact ZL (ZA cZ2 (ZA cZ10 (ZA cZ13 cZ19))) V4.eq_1
           · obtain ⟨rZ20,hrZ20,h⟩:=bind_s h
             refine ZF (ZA cZ2 (ZA cZ10 (ZA cZ13 cZ19))) ?_
             refine ⟨by simp [fz_mk,fz_bpo,fz_sc,fz_lsto,fz_agg,fz_tup,fz_fn,fz_sl,fz_pt,fz_top,fzL_nil,fzL_cons,ou_sc,ou_lstu,ou_lsto,ou_agg,ouL_nil,ouL_cons,rfz_var,rfz_arr,rfz_dead,fzL_mi,fzL_mb,fzL_mz,fzL_m8,fzL_m64,ouL_m8,ouL_m64,ouL_mi,ouL_mb,ouL_mz,VZ1],call_m (ok:=⟨_,_,_⟩) (by simp only [VS1,VS2,VS3,VS4,VS5,VS6,VT1,VT2,finM_ret,finM_nrm,decide_true,decide_false,List.nodup_nil,List.nodup_cons,oks_p,oks_m,oks_h,ne_eq,not_false_eq_true,Int.reduceEq,Int.reduceNe,true_and,false_and,Nat.reduceSub,Nat.reduceMul,↓reduceIte,reduceCtorEq,Nat.reduceEqDiff,Nat.reduceAdd,Nat.reduceLeDiff,Int.reduceLE,cZ2,cZ10,cZ13,cZ19]; first | exact w_ci _ _ hrZ20 | (have hw:=w_ci _ _ hrZ20; simp only [VS1,VS2,VS3,VS4,VS5,VS6,VT1,VT2,finM_ret,finM_nrm,decide_true,decide_false,List.nodup_nil,List.nodup_cons,oks_p,oks_m,oks_h,ne_eq,not_false_eq_true,Int.reduceEq,Int.reduceNe,true_and,false_and,Nat.reduceSub,Nat.reduceMul,↓reduceIte,reduceCtorEq,Nat.reduceEqDiff,Nat.reduceAdd,Nat.reduceLeDiff,Int.reduceLE,cZ2,cZ10,cZ13,cZ19] at hw; exact hw)) (by simp [VS1,VS2,VS3,VS4,VS5,VS6,VT1,VT2]) (by first | exact nm_ok [1000000000] rfl (by decide +kernel) | exact nm_ok2 [1000000000] [] rfl (by decide +kernel) (by simp [VS1,VS2,VS3,VS4,VS5,VS6,VT1,VT2]) | simp [VS1,VS2,VS3,VS4,VS5,VS6,VT1,VT2]) ?_⟩
             refine ZG ?_
             obtain ⟨lZ21,hlZ21,h⟩:=bnd_s h
             have eZ22:sub (rZ20.2.map (e_Li .u)) 0 rZ6.1.length=lZ21.map (e_Li .u):=by rw [sub_mapT,hlZ21]
             obtain ⟨rZ23,hrZ23,h⟩:=bind_s h
             refine ZF (ZA cZ2 (ZA cZ10 (ZA cZ13 (ZA cZ19 eZ22)))) ?_
             refine ZS (ZA cZ2 (ZA cZ10 (ZA cZ13 (ZA cZ19 eZ22)))) (w_cd _ _ hrZ23) ?_
             refine ZG ?_
             obtain ⟨cZ24,h⟩ | ⟨cZ24,h⟩:=cond_s h
             · cases h
               exact ZL (ZA cZ2 (ZA cZ10 (ZA cZ13 (ZA cZ19 (ZA eZ22 cZ24))))) V4.eq_1
             · obtain ⟨cZ25,h⟩ | ⟨cZ25,h⟩:=cond_s h
               · cases h
                 exact ZL (ZA cZ2 (ZA cZ10 (ZA cZ13 (ZA cZ19 (ZA eZ22 (ZA cZ24 cZ25)))))) V4.eq_1
               · obtain ⟨rZ26,hrZ26,h⟩:=bind_s h
                 refine ZF (ZA cZ2 (ZA cZ10 (ZA cZ13 (ZA cZ19 (ZA eZ22 (ZA cZ24 cZ25)))))) ?_
                 refine ZU (ZA cZ2 (ZA cZ10 (ZA cZ13 (ZA cZ19 (ZA eZ22 (ZA cZ24 cZ25)))))) (w_bj _ hrZ26) ?_
                 refine ZG ?_
                 obtain ⟨rZ27,hrZ27,h⟩:=bind_s h
                 refine ZF (ZA cZ2 (ZA cZ10 (ZA cZ13 (ZA cZ19 (ZA eZ22 (ZA cZ24 cZ25)))))) ?_
                 refine ZU (ZA cZ2 (ZA cZ10 (ZA cZ13 (ZA cZ19 (ZA eZ22 (ZA cZ24 cZ25)))))) (w_cb _ hrZ27) ?_
                 refine ZG ?_
                 obtain ⟨oZ30,hoZ30,h⟩:=bind_s h
                 try refine ZF (ZA cZ2 (ZA cZ10 (ZA cZ13 (ZA cZ19 (ZA eZ22 (ZA cZ24 cZ25)))))) ?_
                 refine join_rule0 (sh:=(fun v=>⟨[(7,.sl 7 0 rZ6.1.length),(10,.i rZ20.1),(87,.b v)],[(7,.arr 1 (rZ20.2.map (e_Li .u)))]⟩)) (s:=oZ30) ?_ ?_
                 · replace h:=hoZ30
                   obtain ⟨rZ28,hrZ28,h⟩:=bind_s h
                   refine ZF (ZA cZ2 (ZA cZ10 (ZA cZ13 (ZA cZ19 (ZA eZ22 (ZA cZ24 cZ25)))))) ?_
                   refine ZS (ZA cZ2 (ZA cZ10 (ZA cZ13 (ZA cZ19 (ZA eZ22 (ZA cZ24 cZ25)))))) (w_bt _ _ hrZ28) ?_
                   refine ZG ?_
                   obtain ⟨cZ29,h⟩ | ⟨cZ29,h⟩:=cond_s h
                   · cases h
                     exact ZL (ZA cZ2 (ZA cZ10 (ZA cZ13 (ZA cZ19 (ZA eZ22 (ZA cZ24 (ZA cZ25 cZ29))))))) trivial
                   · cases h
                     exact ZL (ZA cZ2 (ZA cZ10 (ZA cZ13 (ZA cZ19 (ZA eZ22 (ZA cZ24 (ZA cZ25 cZ29))))))) trivial
                 · simp only [ZC,A4R3]
                   obtain ⟨cZ31,h⟩ | ⟨cZ31,h⟩:=cond_s h
                   · cases h
                     exact ZL (ZA cZ2 (ZA cZ10 (ZA cZ13 (ZA cZ19 (ZA eZ22 (ZA cZ24 (ZA cZ25 cZ31))))))) V4.eq_1
                   · obtain ⟨rZ32,hrZ32,h⟩:=bind_s h
                     refine ZF (ZA cZ2 (ZA cZ10 (ZA cZ13 (ZA cZ19 (ZA eZ22 (ZA cZ24 (ZA cZ25 cZ31))))))) ?_
                     refine ZS (ZA cZ2 (ZA cZ10 (ZA cZ13 (ZA cZ19 (ZA eZ22 (ZA cZ24 (ZA cZ25 cZ31))))))) (w_cd _ _ hrZ32) ?_
                     refine ZG ?_
                     obtain ⟨cZ33,h⟩ | ⟨cZ33,h⟩:=cond_s h
                     · cases h
                       exact ZL (ZA cZ2 (ZA cZ10 (ZA cZ13 (ZA cZ19 (ZA eZ22 (ZA cZ24 (ZA cZ25 (ZA cZ31 cZ33)))))))) V4.eq_1
                     · obtain ⟨cZ34,h⟩ | ⟨cZ34,h⟩:=cond_s h
                       · cases h
                         exact ZL (ZA cZ2 (ZA cZ10 (ZA cZ13 (ZA cZ19 (ZA eZ22 (ZA cZ24 (ZA cZ25 (ZA cZ31 (ZA cZ33 cZ34))))))))) V4.eq_1
                       · cases h
                         exact ZL (ZA cZ2 (ZA cZ10 (ZA cZ13 (ZA cZ19 (ZA eZ22 (ZA cZ24 (ZA cZ25 (ZA cZ31 (ZA cZ33 cZ34))))))))) V4.eq_1
end Vs

