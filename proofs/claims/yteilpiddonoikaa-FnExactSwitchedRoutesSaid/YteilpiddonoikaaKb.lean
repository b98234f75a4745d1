/-
  Part of the proof that the law FnExactSwitchedRoutes returns true at every input; no condition beside the row's own.
-/
import Derived.Test.YteilpiddonoikaaKa
set_option linter.defProp false
set_option linter.unusedSimpArgs false
set_option linter.unusedVariables false
set_option maxHeartbeats 1000000
set_option maxRecDepth 8000
namespace Vs
open Go Go.Proofs
attribute [local irreducible] AWP stOps eff awpC callA callM
theorem VT1:(∀ (f:Fl) (x:TFiber),e_TFiber f x=.agg [.i x.A,.i x.B,.i x.Length,.i x.Risk]) ∧
 (∀ (f:Fl) (x:TNetwork),e_TNetwork f x=.agg [.lst f 1 (x.Nodes.map AV.z),.lst f 4 (x.Fibers.map (e_TFiber f))]) ∧
 (∀ (f:Fl) (x:TRoute),e_TRoute f x=.agg [.i x.Start,.lst f 1 (x.Fibers.map AV.i)]):=⟨fun _ _=>rfl,fun _ _=>rfl,fun _ _=>rfl⟩
theorem shape_e_TRoute (f:Fl) (x:TRoute) (v:Value) (w:World) (S:Nat→Prop) (B:Nat) (fp:List Nat) (h:RepP w S B v (e_TRoute f x) fp) (hk:v.cells.size=2):shK 2 v:=shape_agg h hk
theorem VT2:(∀ (f:Fl) (x:TFiber),(e_TFiber f x).nrm=e_TFiber .o x) ∧
 (∀ (f:Fl) (xs:List TFiber),(xs.map (e_TFiber f)).map AV.nrm=xs.map (e_TFiber .o)) ∧
 (∀ (f:Fl) (x:TFiber),(e_TFiber f x).als=e_TFiber f.als x) ∧
 (∀ (f:Fl) (xs:List TFiber),(xs.map (e_TFiber f)).map AV.als=xs.map (e_TFiber f.als)) ∧
 (∀ (f:Fl),AV.als ∘ e_TFiber f=e_TFiber f.als) ∧
 (∀ (f:Fl) (x:TFiber),(e_TFiber f x).fix=e_TFiber f.fix x) ∧
 (∀ (f:Fl) (xs:List TFiber),(xs.map (e_TFiber f)).map AV.fix=xs.map (e_TFiber f.fix)) ∧
 (∀ (f:Fl) (x:TNetwork),(e_TNetwork f x).nrm=e_TNetwork .o x) ∧
 (∀ (f:Fl) (xs:List TNetwork),(xs.map (e_TNetwork f)).map AV.nrm=xs.map (e_TNetwork .o)) ∧
 (∀ (f:Fl) (x:TNetwork),(e_TNetwork f x).als=e_TNetwork f.als x) ∧
 (∀ (f:Fl) (xs:List TNetwork),(xs.map (e_TNetwork f)).map AV.als=xs.map (e_TNetwork f.als)) ∧
 (∀ (f:Fl),AV.als ∘ e_TNetwork f=e_TNetwork f.als) ∧
 (∀ (f:Fl) (x:TNetwork),(e_TNetwork f x).fix=e_TNetwork f.fix x) ∧
 (∀ (f:Fl) (xs:List TNetwork),(xs.map (e_TNetwork f)).map AV.fix=xs.map (e_TNetwork f.fix)) ∧
 (∀ (f:Fl) (x:TRoute),(e_TRoute f x).nrm=e_TRoute .o x) ∧
 (∀ (f:Fl) (xs:List TRoute),(xs.map (e_TRoute f)).map AV.nrm=xs.map (e_TRoute .o)) ∧
 (∀ (f:Fl) (x:TRoute),(e_TRoute f x).als=e_TRoute f.als x) ∧
 (∀ (f:Fl) (xs:List TRoute),(xs.map (e_TRoute f)).map AV.als=xs.map (e_TRoute f.als)) ∧
 (∀ (f:Fl),AV.als ∘ e_TRoute f=e_TRoute f.als) ∧
 (∀ (f:Fl) (x:TRoute),(e_TRoute f x).fix=e_TRoute f.fix x) ∧
 (∀ (f:Fl) (xs:List TRoute),(xs.map (e_TRoute f)).map AV.fix=xs.map (e_TRoute f.fix)) ∧
 (∀ {H:World→Prop} {α:Type} {E:Fl→α→AV} {k:Nat} (t:Tok H E k),(tokE t).als=tokE t) ∧
 (∀ {H:World→Prop} {α:Type} {E:Fl→α→AV} {k:Nat} (t:Tok H E k),(tokE t).nrm=tokE t) ∧
 (∀ {H:World→Prop} {α:Type} {E:Fl→α→AV} {k:Nat} (l:List (Tok H E k)),(l.map tokE).map AV.als=l.map tokE) ∧
 (∀ {H:World→Prop} {α:Type} {E:Fl→α→AV} {k:Nat} (l:List (Tok H E k)),alsL (l.map tokE)=l.map tokE) ∧
 (∀ {H:World→Prop} {α:Type} {E:Fl→α→AV} {k:Nat} (t:Tok H E k),(tokE t).width=k) ∧
 (∀ {H:World→Prop} {α:Type} {E:Fl→α→AV} {k:Nat} (t:Tok H E k),(tokE t).isAgg=true) ∧
 (∀ {H:World→Prop} {α:Type} {E:Fl→α→AV} {k:Nat} (t:Tok H E k),(tokE t).ments=[]) ∧
 (∀ {H:World→Prop} {α:Type} {E:Fl→α→AV} {k:Nat} (t:Tok H E k),part (tokE t) 0 k true=some (tokE t)) ∧
 (∀ {H:World→Prop} {α:Type} {E:Fl→α→AV} {k:Nat} (ρ:Nat→Option Row) (j:Nat) (t:Tok H E k),lift ρ (j+2) (tokE t)=tokE t) ∧
 (∀ {H:World→Prop} {α:Type} {E:Fl→α→AV} {k:Nat} (ρ:Nat→Option Row) (j:Nat) (t:Tok H E k),snp ρ (j+2) (tokE t)=tokE t) ∧
 (∀ {H:World→Prop} {α:Type} {E:Fl→α→AV} {k:Nat} (u t:Tok H E k),setPart (tokE u) 0 (tokE t)=some (tokE t)) ∧
 (∀ {H:World→Prop} {α:Type} {E:Fl→α→AV} {k:Nat} (h:Nat→Nat) (t:Tok H E k),(tokE t).rg h=tokE t) ∧
 (∀ {H:World→Prop} {α:Type} {E:Fl→α→AV} {k:Nat} (r d:Nat) (t:Tok H E k),(tokE t).ren r d=tokE t) ∧
 (∀ {H:World→Prop} {α:Type} {E:Fl→α→AV} {k:Nat} (r:Nat) (t:Tok H E k),(tokE t).hush r=tokE t) ∧
 (∀ {H:World→Prop} {α:Type} {E:Fl→α→AV} {k:Nat} (t:Tok H E k),(tokE t).cells.length=k) ∧
 (∀ {H:World→Prop} {α:Type} {E:Fl→α→AV} (a b:AV) (t:Tok H E 2),setPart (.agg [a,b]) 0 (tokE t)=some (tokE t)) ∧
 (∀ {H:World→Prop} {α:Type} {E:Fl→α→AV} (a b c d e:AV) (t:Tok H E 5),setPart (.agg [a,b,c,d,e]) 0 (tokE t)=some (tokE t)) ∧
 (∀ {H:World→Prop} {α:Type} {E:Fl→α→AV} (a b c d e f g h i j:AV) (t:Tok H E 10),setPart (.agg [a,b,c,d,e,f,g,h,i,j]) 0 (tokE t)=some (tokE t)) :=
 ⟨@e_TFiber_nrm,@e_TFiber_nrmm,@e_TFiber_als,@e_TFiber_alsm,@e_TFiber_alsc,@e_TFiber_fix,@e_TFiber_fixm,@e_TNetwork_nrm,@e_TNetwork_nrmm,@e_TNetwork_als,@e_TNetwork_alsm,@e_TNetwork_alsc,@e_TNetwork_fix,@e_TNetwork_fixm,@e_TRoute_nrm,@e_TRoute_nrmm,@e_TRoute_als,@e_TRoute_alsm,@e_TRoute_alsc,@e_TRoute_fix,@e_TRoute_fixm,@tokE_als,@tokE_nrm,@tokE_alsm,@tokE_alsL,@tokE_width,@tokE_isAgg,@tokE_ments,@tokE_part,@tokE_lift,@tokE_snp,@tokE_set2,@tokE_rg,@tokE_ren,@tokE_hush,@tokE_cells,@tokE_setB,@tokE_setE,@tokE_setJ⟩
theorem VF1:(∀ (f:Fl) (x:TFiber),(e_TFiber f x).fix=e_TFiber f.fix x) ∧
 (∀ (f:Fl) (xs:List TFiber),(xs.map (e_TFiber f)).map AV.fix=xs.map (e_TFiber f.fix)) ∧
 (∀ (f:Fl) (x:TNetwork),(e_TNetwork f x).fix=e_TNetwork f.fix x) ∧
 (∀ (f:Fl) (xs:List TNetwork),(xs.map (e_TNetwork f)).map AV.fix=xs.map (e_TNetwork f.fix)) ∧
 (∀ (f:Fl) (x:TRoute),(e_TRoute f x).fix=e_TRoute f.fix x) ∧
 (∀ (f:Fl) (xs:List TRoute),(xs.map (e_TRoute f)).map AV.fix=xs.map (e_TRoute f.fix)) :=
 ⟨@e_TFiber_fix,@e_TFiber_fixm,@e_TNetwork_fix,@e_TNetwork_fixm,@e_TRoute_fix,@e_TRoute_fixm⟩
theorem VZ1:(∀ (x:TFiber),(e_TFiber .o x).fz=true) ∧
 (∀ (xs:List TFiber),fzL (xs.map (e_TFiber .o))=true) ∧
 (∀ (x:TFiber),(e_TFiber .u x).ouB=true) ∧
 (∀ (xs:List TFiber),ouBL (xs.map (e_TFiber .u))=true) ∧
 (∀ (x:TNetwork),(e_TNetwork .o x).fz=true) ∧
 (∀ (xs:List TNetwork),fzL (xs.map (e_TNetwork .o))=true) ∧
 (∀ (x:TNetwork),(e_TNetwork .u x).ouB=true) ∧
 (∀ (xs:List TNetwork),ouBL (xs.map (e_TNetwork .u))=true) ∧
 (∀ (x:TRoute),(e_TRoute .o x).fz=true) ∧
 (∀ (xs:List TRoute),fzL (xs.map (e_TRoute .o))=true) ∧
 (∀ (x:TRoute),(e_TRoute .u x).ouB=true) ∧
 (∀ (xs:List TRoute),ouBL (xs.map (e_TRoute .u))=true) :=
 ⟨@e_TFiber_fz,@e_TFiber_fzm,@e_TFiber_ou,@e_TFiber_oum,@e_TNetwork_fz,@e_TNetwork_fzm,@e_TNetwork_ou,@e_TNetwork_oum,@e_TRoute_fz,@e_TRoute_fzm,@e_TRoute_ou,@e_TRoute_oum⟩
theorem VE1:e_TFiber .o=e_TFiber .u∧e_TFiber .m=e_TFiber .u∧e_TFiber .s=e_TFiber .u:=⟨rfl,rfl,rfl⟩
theorem Zr {α:Type} (n:Nat) (a:α):(List.replicate n a).length=n:=List.length_replicate
theorem ZA {A B:Prop} (a:A) (b:B):A∧B:=⟨a,b⟩
theorem ZF {A:Prop} (a:A) {P Q:Prop} (k:Q) (e:A→P=Q:=by intro a; simp only [VS1,VS2,VS3,VS4,VS5,VS6,VT1,VT2,finM_ret,finM_nrm,decide_true,decide_false,List.nodup_nil,List.nodup_cons,oks_p,oks_m,oks_h,ne_eq,not_false_eq_true,Int.reduceEq,Int.reduceNe,true_and,false_and,Nat.reduceSub,Nat.reduceMul,↓reduceIte,reduceCtorEq,Nat.reduceEqDiff,Nat.reduceAdd,Nat.reduceLeDiff,Int.reduceLE,a]; exact Eq.refl _):P:=(e a).mpr k
theorem ZG {P Q:Prop} (k:Q) (e:P=Q:=by simp only [VA,VF1,↓reduceIte,Nat.reduceEqDiff,Nat.reduceAdd,Nat.reduceMul,Nat.reduceSub,Nat.reduceLeDiff]; exact Eq.refl _):P:=e.mpr k
theorem ZL {A:Prop} (a:A) {B:Prop} (b:B) {P:Prop} (e:A→B→P:=by intro a b; (try simp only [VS1,VS2,VS3,VS4,VS5,VS6,VT1,VT2,finM_ret,finM_nrm,decide_true,decide_false,List.nodup_nil,List.nodup_cons,oks_p,oks_m,oks_h,ne_eq,not_false_eq_true,Int.reduceEq,Int.reduceNe,true_and,false_and,Nat.reduceSub,Nat.reduceMul,↓reduceIte,reduceCtorEq,Nat.reduceEqDiff,Nat.reduceAdd,Nat.reduceLeDiff,Int.reduceLE,a]); all_goals first | (simp [qL,qJ,qJ0,qS,qX,qR,qM,Shp,sub,tupd,finM_ret,finM_nrm,VS1,VS2,VS3,VS4,VS5,VS6,VT1,VT2,b]; done) | simp [qL,qJ,qJ0,qS,qX,qR,qM,Shp,sub,tupd,finM_ret,finM_nrm,VS1,VS2,VS3,VS4,VS5,VS6,VT1,VT2,VE1,b]):P:=e a b
theorem ZK {B:Prop} (b:B) {P:Prop} (e:B→P:=by intro b; simp [qL,qJ,qJ0,qS,qX,qR,qM,Shp,sub,tupd,finM_ret,finM_nrm,VS1,VS2,VS3,VS4,VS5,VS6,VT1,VT2,b]):P:=e b
theorem ZS {A:Prop} (a:A) {W:Prop} (w:W) {ok:Oks} {ρ:Nat→Option Row} {d f:Nat} {args:List AV} {K:AV→List (Nat×Row)→Prop} {v:Value} (hk:K (.sc v) [])
 (e:A→W→ok.p f (args.map (snp ρ 4)) (.sc v):=by intro a w; simp only [VS1,VS2,VS3,VS4,VS5,VS6,VT1,VT2,finM_ret,finM_nrm,decide_true,decide_false,List.nodup_nil,List.nodup_cons,oks_p,oks_m,oks_h,ne_eq,not_false_eq_true,Int.reduceEq,Int.reduceNe,true_and,false_and,Nat.reduceSub,Nat.reduceMul,↓reduceIte,reduceCtorEq,Nat.reduceEqDiff,Nat.reduceAdd,Nat.reduceLeDiff,Int.reduceLE,a]; exact w):callA ok ρ d f args K:=call_s (e a w) hk
theorem ZU {A:Prop} (a:A) {W:Prop} (w:W) {ok:Oks} {ρ:Nat→Option Row} {d f:Nat} {args:List AV} {K:AV→List (Nat×Row)→Prop} {res:AV} (hk:K (adopt 4 d res).1 (adopt 4 d res).2.1)
 (e:A→W→ok.p f (args.map (snp ρ 4)) res:=by intro a w; simp only [VS1,VS2,VS3,VS4,VS5,VS6,VT1,VT2,finM_ret,finM_nrm,decide_true,decide_false,List.nodup_nil,List.nodup_cons,oks_p,oks_m,oks_h,ne_eq,not_false_eq_true,Int.reduceEq,Int.reduceNe,true_and,false_and,Nat.reduceSub,Nat.reduceMul,↓reduceIte,reduceCtorEq,Nat.reduceEqDiff,Nat.reduceAdd,Nat.reduceLeDiff,Int.reduceLE,a]; exact w) (hu:res.allU:=by simp [AV.allU,allUL,allUL_iff,VT1,VT2]) (hn:∀ p∈(adopt 4 d res).2.1,ρ p.1=none∧p.1 < 1000000000:=by simp only [VS1,VS2,VS3,VS4,VS5,VS6,VT1,VT2,finM_ret,finM_nrm,decide_true,decide_false,List.nodup_nil,List.nodup_cons,oks_p,oks_m,oks_h,ne_eq,not_false_eq_true,Int.reduceEq,Int.reduceNe,true_and,false_and,Nat.reduceSub,Nat.reduceMul,↓reduceIte,reduceCtorEq,Nat.reduceEqDiff,Nat.reduceAdd,Nat.reduceLeDiff,Int.reduceLE,Nat.reduceLT]):callA ok ρ d f args K:=call_u (e a w) hu hn hk
theorem ZQ {P:Prop} (e:P:=by simp [VS1,VS2,VS3,VS4,VS5,VS6,VT1,VT2]):P:=e
theorem ZW {A:Prop} (a:A) {W:Prop} (w:W) {ok:Oks} {ρ:Nat→Option Row} {d f:Nat} {args:List AV} {rs:List Nat} {K:AV→List (Nat×Row)→Prop} {res:AV} {outs:List (Nat×Row)}
 (e:A→W→ok.m f (args.map (AV.rg (cnm rs))) (rs.map (rowIn ρ rs)) res outs:=by intro a w; simp only [VS1,VS2,VS3,VS4,VS5,VS6,VT1,VT2,finM_ret,finM_nrm,decide_true,decide_false,List.nodup_nil,List.nodup_cons,oks_p,oks_m,oks_h,ne_eq,not_false_eq_true,Int.reduceEq,Int.reduceNe,true_and,false_and,Nat.reduceSub,Nat.reduceMul,↓reduceIte,reduceCtorEq,Nat.reduceEqDiff,Nat.reduceAdd,Nat.reduceLeDiff,Int.reduceLE,a]; first | exact w | (simp only [VS1,VS2,VS3,VS4,VS5,VS6,VT1,VT2,finM_ret,finM_nrm,decide_true,decide_false,List.nodup_nil,List.nodup_cons,oks_p,oks_m,oks_h,ne_eq,not_false_eq_true,Int.reduceEq,Int.reduceNe,true_and,false_and,Nat.reduceSub,Nat.reduceMul,↓reduceIte,reduceCtorEq,Nat.reduceEqDiff,Nat.reduceAdd,Nat.reduceLeDiff,Int.reduceLE,a] at w; exact w))
 (h1:rs.Nodup∧(∀ r∈rs,isLive (ρ r))∧(∀ r∈rs,∀ q∈oments (ρ r),q∈rs)∧(∀ r∈mentsL args,r∈rs):=by simp [VS1,VS2,VS3,VS4,VS5,VS6,VT1,VT2])
 (h2:(outs.map fun p=>bkn d rs p.1).Nodup∧(∀ p∈outs,1000000000≤p.1→p.1 - 1000000000 < rs.length)∧(∀ p∈outs,p.1 < 1000000000→ρ (bkn d rs p.1)=none∧bkn d rs p.1 < 1000000000))
 (hk:K (res.rg (bkn d rs)) (gone rs++outs.map (rowBk d rs))):callM ok ρ d f args rs K:=call_m (e a w) h1 h2 hk
def S_ac (aZ0:List ByteArray) (v:Int×Int):St:=⟨[(0,.lst .o 1 (aZ0.map AV.z)),(1,.i v.1),(5,.i v.2)],[]⟩
def SX_ac (v:Int):St:=⟨[(1,.i v)],[]⟩
theorem w_ac (aZ0:List ByteArray) (sZ2:Int×Int) (o:(Int×Int) ⊕ (Int ⊕ Int)) (h:M_ac aZ0 sZ2=some o):AWP (OkS Try.prog) A38L1 (qL [0,1,5] [] (S_ac aZ0) (qS (qX 0 [1] [] (SX_ac)) (qR V38 (fun r=>.i r))) o) (S_ac aZ0 sZ2):=by
 unfold M_ac at h
 simp only [ZC,S_ac,A38L1]
 obtain ⟨cZ3,h⟩ | ⟨cZ3,h⟩:=cond_s h
 · obtain ⟨yZ4,hyZ4,h⟩:=bind_s h
   obtain ⟨hyZ4a,hyZ4b⟩:=geti_s hyZ4
   obtain ⟨cZ5,h⟩ | ⟨cZ5,h⟩:=cond_s h
   · cases h
     exact ZL (ZA cZ3 (ZA hyZ4a (ZA hyZ4b cZ5))) @V38.eq_1
   · cases h
     exact ZL (ZA cZ3 (ZA hyZ4a (ZA hyZ4b cZ5))) (ZA @S_ac.eq_1 @SX_ac.eq_1)
 · cases h
   exact ZL cZ3 (ZA @S_ac.eq_1 @SX_ac.eq_1)
theorem w_ct (aZ0:List ByteArray) (leftZ0:Int) {r:Int} (h:M_ct aZ0 leftZ0=some r):Ok Try.prog 38 [.lst .o 1 (aZ0.map AV.z),.i leftZ0] ((fun r=>.i r) r):=by
 refine ok_of_body hmix m38 rfl ?_
 unfold M_ct at h
 simp only [ZC,A38,V38,body_eq]
 obtain ⟨cZ1,h⟩ | ⟨cZ1,h⟩:=cond_s h
 · cases h
   exact ZL cZ1 @V38.eq_1
 · obtain ⟨oZ6,hoZ6,h⟩:=bind_s h
   try refine ZF cZ1 ?_
   refine join_rule (o:=oZ6) (blk_rule sideR (loop_rule (w_ac aZ0) hoZ6 ?_)) (fun vZ7 hv=>?_) (fun xZ8 hv e τ hne hq=>?_)
   · exact ZK (ZA @S_ac.eq_1 @SX_ac.eq_1)
   · subst hv
     simp only [] at h
     simp only [ZC,SX_ac,A38R2]
     cases h
     exact ZL cZ1 @V38.eq_1
   · subst hv
     simp only [] at h
     obtain ⟨rfl,qZ9⟩:=hq
     cases h
     exact qZ9
theorem w_cw (aZ0:List TFiber) (leftZ0:Int) {r:Int} (h:M_cw aZ0 leftZ0=some r):Ok Try.prog 39 [.lst .o 4 (aZ0.map (e_TFiber .o)),.i leftZ0] ((fun r=>.i r) r):=by
 refine ok_of_body hmix m39 rfl ?_
 unfold M_cw at h
 simp only [ZC,A39,V39,body_eq]
 obtain ⟨cZ1,h⟩ | ⟨cZ1,h⟩:=cond_s h
 · cases h
   exact ZL cZ1 @V39.eq_1
 · cases h
   exact ZL cZ1 @V39.eq_1
theorem w_cz (aZ0:TNetwork) (leftZ0:Int) {r:Int} (h:M_cz aZ0 leftZ0=some r):Ok Try.prog 10 [.agg [.lst .o 1 (aZ0.Nodes.map AV.z),.lst .o 4 (aZ0.Fibers.map (e_TFiber .o))],.i leftZ0] ((fun r=>.i r) r):=by
 refine ok_of_body hmix m10 rfl ?_
 unfold M_cz at h
 simp only [ZC,A10,V10,body_eq]
 obtain ⟨rZ1,hrZ1,h⟩:=bind_s h
 refine ZF trivial ?_
 refine ZS trivial (w_ct _ _ hrZ1) ?_
 refine ZG ?_
 obtain ⟨cZ2,h⟩ | ⟨cZ2,h⟩:=cond_s h
 · cases h
   exact ZL cZ2 @V10.eq_1
 · obtain ⟨rZ3,hrZ3,h⟩:=bind_s h
   refine ZF cZ2 ?_
   refine ZS cZ2 (w_cw _ _ hrZ3) ?_
   refine ZG ?_
   obtain ⟨cZ4,h⟩ | ⟨cZ4,h⟩:=cond_s h
   · cases h
     exact ZL (ZA cZ2 cZ4) @V10.eq_1
   · cases h
     exact ZL (ZA cZ2 cZ4) @V10.eq_1
def S_ad (aZ0:List ByteArray) (v:Int×List ByteArray):St:=⟨[(0,.lst .o 1 (aZ0.map AV.z)),(3,.sl 3 0 v.2.length),(4,.i v.1)],[(3,.arr 1 (v.2.map AV.z))]⟩
def SX_ad (v:List ByteArray):St:=⟨[(3,.sl 3 0 v.length)],[(3,.arr 1 (v.map AV.z))]⟩
theorem w_ad (aZ0:List ByteArray) (sZ4:Int×List ByteArray) (o:(Int×List ByteArray) ⊕ (List ByteArray)) (h:M_ad aZ0 sZ4=some o):AWP (OkS Try.prog) A42L1 (qL [0,3,4] [3] (S_ad aZ0) (qX 0 [3] [3] (SX_ad)) o) (S_ad aZ0 sZ4):=by
 unfold M_ad at h
 simp only [ZC,S_ad,A42L1]
 obtain ⟨cZ5,h⟩ | ⟨cZ5,h⟩:=cond_s h
 · obtain ⟨yZ6,hyZ6,h⟩:=bind_s h
   obtain ⟨hyZ6a,hyZ6b⟩:=geti_s hyZ6
   obtain ⟨kZ7,hkZ7,h⟩:=bind_s h
   obtain ⟨hkZ7a,hkZ7b⟩:=grd_s hkZ7
   obtain ⟨yZ8,hyZ8,h⟩:=bind_s h
   obtain ⟨lZ9,hlZ9,h⟩:=bnd_s h
   have eZ10:(sZ4.2.map AV.z).set (Int.toNat sZ4.1) (.z yZ6)=lZ9.map AV.z:=by rw [← hlZ9,List.map_set]
   cases h
   exact ZL (ZA cZ5 (ZA hyZ6a (ZA hyZ6b (ZA hkZ7a (ZA hkZ7b (ZA hyZ8 eZ10)))))) (ZA @S_ad.eq_1 (ZA @SX_ad.eq_1 hlZ9.symm))
 · cases h
   exact ZL cZ5 (ZA @S_ad.eq_1 @SX_ad.eq_1)
theorem w_cu (aZ0:List ByteArray) {r:List ByteArray} (h:M_cu aZ0=some r):Ok Try.prog 42 [.lst .o 1 (aZ0.map AV.z)] ((fun r=>.lst .u 1 (r.map AV.z)) r):=by
 refine ok_of_body hmix m42 rfl ?_
 unfold M_cu at h
 simp only [ZC,A42,V42,body_eq]
 obtain ⟨uZ1,huZ1,h⟩:=bind_s h
 obtain ⟨huZ11,huZ12,huZ13,huZ14⟩:=grd_s huZ1
 obtain ⟨lZ2,hlZ2,h⟩:=bnd_s h
 have eZ3:List.replicate (Int.toNat (aZ0.length:Int)) (.z (⟨#[]⟩:ByteArray):AV)=lZ2.map AV.z:=by rw [← hlZ2,List.map_replicate]
 obtain ⟨oZ11,hoZ11,h⟩:=bind_s h
 try refine ZF (ZA huZ11 (ZA huZ12 (ZA huZ13 (ZA huZ14 eZ3)))) ?_
 refine join_rule0 (blk_rule0 (loop_rule (w_ad aZ0) hoZ11 ?_)) ?_
 · exact ZK (ZA @S_ad.eq_1 (ZA @SX_ad.eq_1 (ZA hlZ2.symm @Zr)))
 · simp only [ZC,SX_ad,A42R2]
   cases h
   exact ZL (ZA huZ11 (ZA huZ12 (ZA huZ13 (ZA huZ14 eZ3)))) @V42.eq_1
theorem w_cf (aZ0:TFiber) {r:TFiber} (h:M_cf aZ0=some r):Ok Try.prog 79 [.agg [.i aZ0.A,.i aZ0.B,.i aZ0.Length,.i aZ0.Risk]] ((fun r=>.agg [.i r.A,.i r.B,.i r.Length,.i r.Risk]) r):=by
 refine ok_of_body hmix m79 rfl ?_
 unfold M_cf at h
 simp only [ZC,A79,V79,body_eq]
 cases h
 exact ZL trivial @V79.eq_1
def S_af (aZ0:List TFiber) (v:Int×List TFiber):St:=⟨[(0,.lst .o 4 (aZ0.map (e_TFiber .o))),(3,.sl 3 0 v.2.length),(4,.i v.1)],[(3,.arr 4 (v.2.map (e_TFiber .u)))]⟩
def SX_af (v:List TFiber):St:=⟨[(3,.sl 3 0 v.length)],[(3,.arr 4 (v.map (e_TFiber .u)))]⟩
theorem w_af (aZ0:List TFiber) (sZ4:Int×List TFiber) (o:(Int×List TFiber) ⊕ (List TFiber)) (h:M_af aZ0 sZ4=some o):AWP (OkS Try.prog) A43L1 (qL [0,3,4] [3] (S_af aZ0) (qX 0 [3] [3] (SX_af)) o) (S_af aZ0 sZ4):=by
 unfold M_af at h
 simp only [ZC,S_af,A43L1]
 obtain ⟨cZ5,h⟩ | ⟨cZ5,h⟩:=cond_s h
 · obtain ⟨yZ6,hyZ6,h⟩:=bind_s h
   obtain ⟨hyZ6a,hyZ6b⟩:=geti_s hyZ6
   obtain ⟨rZ7,hrZ7,h⟩:=bind_s h
   refine ZF (ZA cZ5 (ZA hyZ6a hyZ6b)) ?_
   refine ZU (ZA cZ5 (ZA hyZ6a hyZ6b)) (w_cf _ hrZ7) ?_
   refine ZG ?_
   obtain ⟨kZ8,hkZ8,h⟩:=bind_s h
   obtain ⟨hkZ8a,hkZ8b⟩:=grd_s hkZ8
   obtain ⟨yZ9,hyZ9,h⟩:=bind_s h
   obtain ⟨lZ10,hlZ10,h⟩:=bnd_s h
   have eZ11:(sZ4.2.map (e_TFiber .u)).set (Int.toNat sZ4.1) (.agg [.i rZ7.A,.i rZ7.B,.i rZ7.Length,.i rZ7.Risk])=lZ10.map (e_TFiber .u):=by rw [← hlZ10,List.map_set]; rfl
   cases h
   exact ZL (ZA cZ5 (ZA hyZ6a (ZA hyZ6b (ZA hkZ8a (ZA hkZ8b (ZA hyZ9 eZ11)))))) (ZA @S_af.eq_1 (ZA @SX_af.eq_1 hlZ10.symm))
 · cases h
   exact ZL cZ5 (ZA @S_af.eq_1 @SX_af.eq_1)
theorem w_cx (aZ0:List TFiber) {r:List TFiber} (h:M_cx aZ0=some r):Ok Try.prog 43 [.lst .o 4 (aZ0.map (e_TFiber .o))] ((fun r=>.lst .u 4 (r.map (e_TFiber .u))) r):=by
 refine ok_of_body hmix m43 rfl ?_
 unfold M_cx at h
 simp only [ZC,A43,V43,body_eq]
 obtain ⟨uZ1,huZ1,h⟩:=bind_s h
 obtain ⟨huZ11,huZ12,huZ13,huZ14⟩:=grd_s huZ1
 obtain ⟨lZ2,hlZ2,h⟩:=bnd_s h
 have eZ3:List.replicate (Int.toNat (aZ0.length:Int)) (.agg [.i 0,.i 0,.i 0,.i 0]:AV)=lZ2.map (e_TFiber .u):=by rw [← hlZ2,List.map_replicate]; rfl
 obtain ⟨oZ12,hoZ12,h⟩:=bind_s h
 try refine ZF (ZA huZ11 (ZA huZ12 (ZA huZ13 (ZA huZ14 eZ3)))) ?_
 refine join_rule0 (blk_rule0 (loop_rule (w_af aZ0) hoZ12 ?_)) ?_
 · exact ZK (ZA @S_af.eq_1 (ZA @SX_af.eq_1 (ZA hlZ2.symm @Zr)))
 · simp only [ZC,SX_af,A43R2]
   cases h
   exact ZL (ZA huZ11 (ZA huZ12 (ZA huZ13 (ZA huZ14 eZ3)))) @V43.eq_1
theorem w_bf (aZ0:TNetwork) {r:TNetwork} (h:M_bf aZ0=some r):Ok Try.prog 12 [.agg [.lst .o 1 (aZ0.Nodes.map AV.z),.lst .o 4 (aZ0.Fibers.map (e_TFiber .o))]] ((fun r=>.agg [.lst .u 1 (r.Nodes.map AV.z),.lst .u 4 (r.Fibers.map (e_TFiber .u))]) r):=by
 refine ok_of_body hmix m12 rfl ?_
 unfold M_bf at h
 simp only [ZC,A12,V12,body_eq]
 obtain ⟨rZ1,hrZ1,h⟩:=bind_s h
 refine ZF trivial ?_
 refine ZU trivial (w_cu _ hrZ1) ?_
 refine ZG ?_
 obtain ⟨rZ2,hrZ2,h⟩:=bind_s h
 refine ZF trivial ?_
 refine ZU trivial (w_cx _ hrZ2) ?_
 refine ZG ?_
 cases h
 exact ZL trivial @V12.eq_1
def S_ah (aZ0:List Int) (v:Int×List Int):St:=⟨[(0,.lst .o 1 (aZ0.map AV.i)),(3,.sl 3 0 v.2.length),(4,.i v.1)],[(3,.arr 1 (v.2.map AV.i))]⟩
def SX_ah (v:List Int):St:=⟨[(3,.sl 3 0 v.length)],[(3,.arr 1 (v.map AV.i))]⟩
theorem w_ah (aZ0:List Int) (sZ4:Int×List Int) (o:(Int×List Int) ⊕ (List Int)) (h:M_ah aZ0 sZ4=some o):AWP (OkS Try.prog) A13L1 (qL [0,3,4] [3] (S_ah aZ0) (qX 0 [3] [3] (SX_ah)) o) (S_ah aZ0 sZ4):=by
 unfold M_ah at h
 simp only [ZC,S_ah,A13L1]
 obtain ⟨cZ5,h⟩ | ⟨cZ5,h⟩:=cond_s h
 · obtain ⟨yZ6,hyZ6,h⟩:=bind_s h
   obtain ⟨hyZ6a,hyZ6b⟩:=geti_s hyZ6
   obtain ⟨kZ7,hkZ7,h⟩:=bind_s h
   obtain ⟨hkZ7a,hkZ7b⟩:=grd_s hkZ7
   obtain ⟨yZ8,hyZ8,h⟩:=bind_s h
   obtain ⟨lZ9,hlZ9,h⟩:=bnd_s h
   have eZ10:(sZ4.2.map AV.i).set (Int.toNat sZ4.1) (.i yZ6)=lZ9.map AV.i:=by rw [← hlZ9,List.map_set]
   cases h
   exact ZL (ZA cZ5 (ZA hyZ6a (ZA hyZ6b (ZA hkZ7a (ZA hkZ7b (ZA hyZ8 eZ10)))))) (ZA @S_ah.eq_1 (ZA @SX_ah.eq_1 hlZ9.symm))
 · cases h
   exact ZL cZ5 (ZA @S_ah.eq_1 @SX_ah.eq_1)
theorem w_bg (aZ0:List Int) {r:List Int} (h:M_bg aZ0=some r):Ok Try.prog 13 [.lst .o 1 (aZ0.map AV.i)] ((fun r=>.lst .u 1 (r.map AV.i)) r):=by
 refine ok_of_body hmix m13 rfl ?_
 unfold M_bg at h
 simp only [ZC,A13,V13,body_eq]
 obtain ⟨uZ1,huZ1,h⟩:=bind_s h
 obtain ⟨huZ11,huZ12,huZ13,huZ14⟩:=grd_s huZ1
 obtain ⟨lZ2,hlZ2,h⟩:=bnd_s h
 have eZ3:List.replicate (Int.toNat (aZ0.length:Int)) (.i 0:AV)=lZ2.map AV.i:=by rw [← hlZ2,List.map_replicate]
 obtain ⟨oZ11,hoZ11,h⟩:=bind_s h
 try refine ZF (ZA huZ11 (ZA huZ12 (ZA huZ13 (ZA huZ14 eZ3)))) ?_
 refine join_rule0 (blk_rule0 (loop_rule (w_ah aZ0) hoZ11 ?_)) ?_
 · exact ZK (ZA @S_ah.eq_1 (ZA @SX_ah.eq_1 (ZA hlZ2.symm @Zr)))
 · simp only [ZC,SX_ah,A13R2]
   cases h
   exact ZL (ZA huZ11 (ZA huZ12 (ZA huZ13 (ZA huZ14 eZ3)))) @V13.eq_1
theorem w_b (xZ0:Int) (aZ0:Int) (bZ0:Int) {r:Bool} (h:M_b xZ0 aZ0 bZ0=some r):Ok Try.prog 53 [.i xZ0,.i aZ0,.i bZ0] ((fun r=>.b r) r):=by
 refine ok_of_body hmix m53 rfl ?_
 unfold M_b at h
 simp only [ZC,A53,V53,body_eq]
 obtain ⟨cZ1,h⟩ | ⟨cZ1,h⟩:=cond_s h
 · cases h
   exact ZL cZ1 @V53.eq_1
 · cases h
   exact ZL cZ1 @V53.eq_1
theorem w_co (bZ0:Int) {r:Bool} (h:M_co bZ0=some r):Ok Try.prog 108 [.sc (.int .u8 bZ0)] ((fun r=>.b r) r):=by
 refine ok_of_body hmix m108 rfl ?_
 unfold M_co at h
 simp only [ZC,A108,V108,body_eq]
 obtain ⟨cZ1,h⟩ | ⟨cZ1,h⟩:=cond_s h
 · obtain ⟨cZ2,h⟩ | ⟨cZ2,h⟩:=cond_s h
   · cases h
     exact ZL (ZA cZ1 cZ2) @V108.eq_1
   · obtain ⟨cZ3,h⟩ | ⟨cZ3,h⟩:=cond_s h
     · cases h
       exact ZL (ZA cZ1 (ZA cZ2 cZ3)) @V108.eq_1
     · cases h
       exact ZL (ZA cZ1 (ZA cZ2 cZ3)) @V108.eq_1
 · obtain ⟨cZ4,h⟩ | ⟨cZ4,h⟩:=cond_s h
   · cases h
     exact ZL (ZA cZ1 cZ4) @V108.eq_1
   · cases h
     exact ZL (ZA cZ1 cZ4) @V108.eq_1
def S_w (sZ0:ByteArray) (v:Int):St:=⟨[(0,.z sZ0),(3,.i v)],[]⟩
def SX_w (v:Unit):St:=⟨[],[]⟩
theorem w_w (sZ0:ByteArray) (sZ7:Int) (o:Int ⊕ (Unit ⊕ Bool)) (h:M_w sZ0 sZ7=some o):AWP (OkS Try.prog) A72L2 (qL [0,3] [] (S_w sZ0) (qS (qX 0 [] [] (SX_w)) (qR V72 (fun r=>.b r))) o) (S_w sZ0 sZ7):=by
 unfold M_w at h
 simp only [ZC,S_w,A72L2]
 obtain ⟨cZ8,h⟩ | ⟨cZ8,h⟩:=cond_s h
 · obtain ⟨yZ9,hyZ9,h⟩:=bind_s h
   obtain ⟨hyZ9a,hyZ9b⟩:=getz_s hyZ9
   obtain ⟨rZ10,hrZ10,h⟩:=bind_s h
   refine ZF (ZA cZ8 (ZA hyZ9a hyZ9b)) ?_
   refine ZS (ZA cZ8 (ZA hyZ9a hyZ9b)) (w_co _ hrZ10) ?_
   refine ZG ?_
   obtain ⟨cZ11,h⟩ | ⟨cZ11,h⟩:=cond_s h
   · cases h
     exact ZL (ZA cZ8 (ZA hyZ9a (ZA hyZ9b cZ11))) @V72.eq_1
   · cases h
     exact ZL (ZA cZ8 (ZA hyZ9a (ZA hyZ9b cZ11))) (ZA @S_w.eq_1 @SX_w.eq_1)
 · cases h
   exact ZL cZ8 (ZA @S_w.eq_1 @SX_w.eq_1)
theorem w_cp (sZ0:ByteArray) {r:Bool} (h:M_cp sZ0=some r):Ok Try.prog 72 [.z sZ0] ((fun r=>.b r) r):=by
 refine ok_of_body hmix m72 rfl ?_
 unfold M_cp at h
 simp only [ZC,A72,V72,body_eq]
 obtain ⟨oZ5,hoZ5,h⟩:=bind_s h
 try refine ZF trivial ?_
 refine join_rule0 (sh:=(fun v=>⟨[(0,.z sZ0),(17,.b v)],[]⟩)) (s:=oZ5) ?_ ?_
 · replace h:=hoZ5
   obtain ⟨rZ1,hrZ1,h⟩:=bind_s h
   refine ZF trivial ?_
   refine ZS trivial (w_b _ _ _ hrZ1) ?_
   refine ZG ?_
   obtain ⟨cZ2,h⟩ | ⟨cZ2,h⟩:=cond_s h
   · cases h
     exact ZL cZ2 trivial
   · obtain ⟨yZ3,hyZ3,h⟩:=bind_s h
     obtain ⟨hyZ3a,hyZ3b⟩:=getz_s hyZ3
     obtain ⟨cZ4,h⟩ | ⟨cZ4,h⟩:=cond_s h
     · cases h
       exact ZL (ZA cZ2 (ZA hyZ3a (ZA hyZ3b cZ4))) trivial
     · cases h
       exact ZL (ZA cZ2 (ZA hyZ3a (ZA hyZ3b cZ4))) trivial
 · simp only [ZC,A72R1]
   obtain ⟨cZ6,h⟩ | ⟨cZ6,h⟩:=cond_s h
   · cases h
     exact ZL cZ6 @V72.eq_1
   · obtain ⟨oZ12,hoZ12,h⟩:=bind_s h
     try refine ZF cZ6 ?_
     refine join_rule (o:=oZ12) (blk_rule sideR (loop_rule (w_w sZ0) hoZ12 ?_)) (fun vZ13 hv=>?_) (fun xZ14 hv e τ hne hq=>?_)
     · exact ZK (ZA @S_w.eq_1 @SX_w.eq_1)
     · subst hv
       simp only [] at h
       simp only [ZC,SX_w,A72R3]
       cases h
       exact ZL cZ6 @V72.eq_1
     · subst hv
       simp only [] at h
       obtain ⟨rfl,qZ15⟩:=hq
       cases h
       exact qZ15
def S_x (listZ0:List ByteArray) (nameZ0:ByteArray) (v:Int):St:=⟨[(0,.lst .o 1 (listZ0.map AV.z)),(1,.z nameZ0),(5,.i v)],[]⟩
def SX_x (v:Unit):St:=⟨[],[]⟩
theorem w_x (listZ0:List ByteArray) (nameZ0:ByteArray) (sZ1:Int) (o:Int ⊕ (Unit ⊕ Int)) (h:M_x listZ0 nameZ0 sZ1=some o):AWP (OkS Try.prog) A73L1 (qL [0,1,5] [] (S_x listZ0 nameZ0) (qS (qX 0 [] [] (SX_x)) (qR V73 (fun r=>.i r))) o) (S_x listZ0 nameZ0 sZ1):=by
 unfold M_x at h
 simp only [ZC,S_x,A73L1]
 obtain ⟨cZ2,h⟩ | ⟨cZ2,h⟩:=cond_s h
 · obtain ⟨yZ3,hyZ3,h⟩:=bind_s h
   obtain ⟨hyZ3a,hyZ3b⟩:=geti_s hyZ3
   obtain ⟨cZ4,h⟩ | ⟨cZ4,h⟩:=cond_s h
   · cases h
     exact ZL (ZA cZ2 (ZA hyZ3a (ZA hyZ3b cZ4))) @V73.eq_1
   · cases h
     exact ZL (ZA cZ2 (ZA hyZ3a (ZA hyZ3b cZ4))) (ZA @S_x.eq_1 @SX_x.eq_1)
 · cases h
   exact ZL cZ2 (ZA @S_x.eq_1 @SX_x.eq_1)
theorem w_cq (listZ0:List ByteArray) (nameZ0:ByteArray) {r:Int} (h:M_cq listZ0 nameZ0=some r):Ok Try.prog 73 [.lst .o 1 (listZ0.map AV.z),.z nameZ0] ((fun r=>.i r) r):=by
 refine ok_of_body hmix m73 rfl ?_
 unfold M_cq at h
 simp only [ZC,A73,V73,body_eq]
 obtain ⟨oZ5,hoZ5,h⟩:=bind_s h
 try refine ZF trivial ?_
 refine join_rule (o:=oZ5) (blk_rule sideR (loop_rule (w_x listZ0 nameZ0) hoZ5 ?_)) (fun vZ6 hv=>?_) (fun xZ7 hv e τ hne hq=>?_)
 · exact ZK (ZA @S_x.eq_1 @SX_x.eq_1)
 · subst hv
   simp only [] at h
   simp only [ZC,SX_x,A73R2]
   cases h
   exact ZL trivial @V73.eq_1
 · subst hv
   simp only [] at h
   obtain ⟨rfl,qZ8⟩:=hq
   cases h
   exact qZ8
theorem w_dn (fZ0:TFiber) (nodesZ0:Int) {r:Bool} (h:M_dn fZ0 nodesZ0=some r):Ok Try.prog 74 [.agg [.i fZ0.A,.i fZ0.B,.i fZ0.Length,.i fZ0.Risk],.i nodesZ0] ((fun r=>.b r) r):=by
 refine ok_of_body hmix m74 rfl ?_
 unfold M_dn at h
 simp only [ZC,A74,V74,body_eq]
 obtain ⟨rZ1,hrZ1,h⟩:=bind_s h
 refine ZF trivial ?_
 refine ZS trivial (w_b _ _ _ hrZ1) ?_
 refine ZG ?_
 obtain ⟨cZ2,h⟩ | ⟨cZ2,h⟩:=cond_s h
 · obtain ⟨rZ3,hrZ3,h⟩:=bind_s h
   refine ZF cZ2 ?_
   refine ZS cZ2 (w_b _ _ _ hrZ3) ?_
   refine ZG ?_
   obtain ⟨cZ4,h⟩ | ⟨cZ4,h⟩:=cond_s h
   · obtain ⟨rZ5,hrZ5,h⟩:=bind_s h
     refine ZF (ZA cZ2 cZ4) ?_
     refine ZS (ZA cZ2 cZ4) (w_b _ _ _ hrZ5) ?_
     refine ZG ?_
     obtain ⟨cZ6,h⟩ | ⟨cZ6,h⟩:=cond_s h
     · obtain ⟨rZ7,hrZ7,h⟩:=bind_s h
       refine ZF (ZA cZ2 (ZA cZ4 cZ6)) ?_
       refine ZS (ZA cZ2 (ZA cZ4 cZ6)) (w_b _ _ _ hrZ7) ?_
       refine ZG ?_
       cases h
       exact ZL (ZA cZ2 (ZA cZ4 cZ6)) @V74.eq_1
     · cases h
       exact ZL (ZA cZ2 (ZA cZ4 cZ6)) @V74.eq_1
   · cases h
     exact ZL (ZA cZ2 cZ4) @V74.eq_1
 · cases h
   exact ZL cZ2 @V74.eq_1
theorem w_do (fZ0:TFiber) (gZ0:TFiber) {r:Int} (h:M_do fZ0 gZ0=some r):Ok Try.prog 75 [.agg [.i fZ0.A,.i fZ0.B,.i fZ0.Length,.i fZ0.Risk],.agg [.i gZ0.A,.i gZ0.B,.i gZ0.Length,.i gZ0.Risk]] ((fun r=>.i r) r):=by
 refine ok_of_body hmix m75 rfl ?_
 unfold M_do at h
 simp only [ZC,A75,V75,body_eq]
 obtain ⟨cZ1,h⟩ | ⟨cZ1,h⟩:=cond_s h
 · cases h
   exact ZL cZ1 @V75.eq_1
 · obtain ⟨cZ2,h⟩ | ⟨cZ2,h⟩:=cond_s h
   · cases h
     exact ZL (ZA cZ1 cZ2) @V75.eq_1
   · obtain ⟨cZ3,h⟩ | ⟨cZ3,h⟩:=cond_s h
     · cases h
       exact ZL (ZA cZ1 (ZA cZ2 cZ3)) @V75.eq_1
     · cases h
       exact ZL (ZA cZ1 (ZA cZ2 cZ3)) @V75.eq_1
def S_at (nZ0:TNetwork) (v:Int):St:=⟨[(1,.pt 1 0 0),(3,.i v)],[(1,.var (.agg [.lst .o 1 (nZ0.Nodes.map AV.z),.lst .o 4 (nZ0.Fibers.map (e_TFiber .o))]))]⟩
def SX_at (nZ0:TNetwork) (v:Unit):St:=⟨[(1,.pt 1 0 0)],[(1,.var (.agg [.lst .o 1 (nZ0.Nodes.map AV.z),.lst .o 4 (nZ0.Fibers.map (e_TFiber .o))]))]⟩
theorem w_at (nZ0:TNetwork) (sZ5:Int) (o:Int ⊕ (Unit ⊕ Bool)) (h:M_at nZ0 sZ5=some o):AWP (OkS Try.prog) A40L3 (qL [1,3] [1] (S_at nZ0) (qS (qX 0 [1] [1] (SX_at nZ0)) (qR V40 (fun r=>.b r))) o) (S_at nZ0 sZ5):=by
 unfold M_at at h
 simp only [ZC,S_at,A40L3]
 obtain ⟨cZ6,h⟩ | ⟨cZ6,h⟩:=cond_s h
 · obtain ⟨oZ11,hoZ11,h⟩:=bind_s h
   try refine ZF cZ6 ?_
   refine join_rule0 (sh:=(fun v=>⟨[(1,.pt 1 0 0),(3,.i sZ5),(41,.b v)],[(1,.var (.agg [.lst .o 1 (nZ0.Nodes.map AV.z),.lst .o 4 (nZ0.Fibers.map (e_TFiber .o))]))]⟩)) (s:=oZ11) ?_ ?_
   · replace h:=hoZ11
     obtain ⟨yZ7,hyZ7,h⟩:=bind_s h
     obtain ⟨hyZ7a,hyZ7b⟩:=geti_s hyZ7
     obtain ⟨rZ8,hrZ8,h⟩:=bind_s h
     refine ZF (ZA cZ6 (ZA hyZ7a hyZ7b)) ?_
     refine ZS (ZA cZ6 (ZA hyZ7a hyZ7b)) (w_cp _ hrZ8) ?_
     refine ZG ?_
     obtain ⟨cZ9,h⟩ | ⟨cZ9,h⟩:=cond_s h
     · cases h
       exact ZL (ZA cZ6 (ZA hyZ7a (ZA hyZ7b cZ9))) trivial
     · obtain ⟨rZ10,hrZ10,h⟩:=bind_s h
       refine ZF (ZA cZ6 (ZA hyZ7a (ZA hyZ7b cZ9))) ?_
       refine ZS (ZA cZ6 (ZA hyZ7a (ZA hyZ7b cZ9))) (w_cq _ _ hrZ10) ?_
       refine ZG ?_
       cases h
       exact ZL (ZA cZ6 (ZA hyZ7a (ZA hyZ7b cZ9))) trivial
   · simp only [ZC,A40R2]
     obtain ⟨cZ12,h⟩ | ⟨cZ12,h⟩:=cond_s h
     · cases h
       exact ZL (ZA cZ6 cZ12) @V40.eq_1
     · cases h
       exact ZL (ZA cZ6 cZ12) (ZA @S_at.eq_1 @SX_at.eq_1)
 · cases h
   exact ZL cZ6 (ZA @S_at.eq_1 @SX_at.eq_1)
def S_au (nZ0:TNetwork) (v:Int):St:=⟨[(1,.pt 1 0 0),(4,.i v)],[(1,.var (.agg [.lst .o 1 (nZ0.Nodes.map AV.z),.lst .o 4 (nZ0.Fibers.map (e_TFiber .o))]))]⟩
def SX_au (v:Unit):St:=⟨[],[]⟩
theorem w_au (nZ0:TNetwork) (sZ16:Int) (o:Int ⊕ (Unit ⊕ Bool)) (h:M_au nZ0 sZ16=some o):AWP (OkS Try.prog) A40L6 (qL [1,4] [1] (S_au nZ0) (qS (qX 2 [] [] (SX_au)) (qR V40 (fun r=>.b r))) o) (S_au nZ0 sZ16):=by
 unfold M_au at h
 simp only [ZC,S_au,A40L6]
 obtain ⟨cZ17,h⟩ | ⟨cZ17,h⟩:=cond_s h
 · obtain ⟨oZ24,hoZ24,h⟩:=bind_s h
   try refine ZF cZ17 ?_
   refine join_rule0 (sh:=(fun v=>⟨[(1,.pt 1 0 0),(4,.i sZ16),(77,.b v)],[(1,.var (.agg [.lst .o 1 (nZ0.Nodes.map AV.z),.lst .o 4 (nZ0.Fibers.map (e_TFiber .o))]))]⟩)) (s:=oZ24) ?_ ?_
   · replace h:=hoZ24
     obtain ⟨yZ18,hyZ18,h⟩:=bind_s h
     obtain ⟨hyZ18a,hyZ18b⟩:=geti_s hyZ18
     obtain ⟨rZ19,hrZ19,h⟩:=bind_s h
     refine ZF (ZA cZ17 (ZA hyZ18a hyZ18b)) ?_
     refine ZS (ZA cZ17 (ZA hyZ18a hyZ18b)) (w_dn _ _ hrZ19) ?_
     refine ZG ?_
     obtain ⟨cZ20,h⟩ | ⟨cZ20,h⟩:=cond_s h
     · cases h
       exact ZL (ZA cZ17 (ZA hyZ18a (ZA hyZ18b cZ20))) trivial
     · obtain ⟨cZ21,h⟩ | ⟨cZ21,h⟩:=cond_s h
       · obtain ⟨yZ22,hyZ22,h⟩:=bind_s h
         obtain ⟨hyZ22a,hyZ22b⟩:=geti_s hyZ22
         obtain ⟨rZ23,hrZ23,h⟩:=bind_s h
         refine ZF (ZA cZ17 (ZA hyZ18a (ZA hyZ18b (ZA cZ20 (ZA cZ21 (ZA hyZ22a hyZ22b)))))) ?_
         refine ZS (ZA cZ17 (ZA hyZ18a (ZA hyZ18b (ZA cZ20 (ZA cZ21 (ZA hyZ22a hyZ22b)))))) (w_do _ _ hrZ23) ?_
         refine ZG ?_
         cases h
         exact ZL (ZA cZ17 (ZA hyZ18a (ZA hyZ18b (ZA cZ20 (ZA cZ21 (ZA hyZ22a hyZ22b)))))) trivial
       · cases h
         exact ZL (ZA cZ17 (ZA hyZ18a (ZA hyZ18b (ZA cZ20 cZ21)))) trivial
   · simp only [ZC,A40R5]
     obtain ⟨cZ25,h⟩ | ⟨cZ25,h⟩:=cond_s h
     · cases h
       exact ZL (ZA cZ17 cZ25) @V40.eq_1
     · cases h
       exact ZL (ZA cZ17 cZ25) (ZA @S_au.eq_1 @SX_au.eq_1)
 · cases h
   exact ZL cZ17 (ZA @S_au.eq_1 @SX_au.eq_1)
theorem w_bw (nZ0:TNetwork) {r:Bool} (h:M_bw nZ0=some r):Ok Try.prog 40 [.agg [.lst .o 1 (nZ0.Nodes.map AV.z),.lst .o 4 (nZ0.Fibers.map (e_TFiber .o))]] ((fun r=>.b r) r):=by
 refine ok_of_body hmix m40 rfl ?_
 unfold M_bw at h
 simp only [ZC,A40,V40,body_eq]
 obtain ⟨oZ3,hoZ3,h⟩:=bind_s h
 try refine ZF trivial ?_
 refine join_rule0 (sh:=(fun v=>⟨[(1,.pt 1 0 0),(15,.b v)],[(1,.var (.agg [.lst .o 1 (nZ0.Nodes.map AV.z),.lst .o 4 (nZ0.Fibers.map (e_TFiber .o))]))]⟩)) (s:=oZ3) ?_ ?_
 · replace h:=hoZ3
   obtain ⟨rZ1,hrZ1,h⟩:=bind_s h
   refine ZF trivial ?_
   refine ZS trivial (w_b _ _ _ hrZ1) ?_
   refine ZG ?_
   obtain ⟨cZ2,h⟩ | ⟨cZ2,h⟩:=cond_s h
   · cases h
     exact ZL cZ2 trivial
   · cases h
     exact ZL cZ2 trivial
 · simp only [ZC,A40R1]
   obtain ⟨cZ4,h⟩ | ⟨cZ4,h⟩:=cond_s h
   · cases h
     exact ZL cZ4 @V40.eq_1
   · obtain ⟨oZ13,hoZ13,h⟩:=bind_s h
     try refine ZF cZ4 ?_
     refine join_rule (o:=oZ13) (blk_rule sideR (loop_rule (w_at nZ0) hoZ13 ?_)) (fun vZ14 hv=>?_) (fun xZ15 hv e τ hne hq=>?_)
     · exact ZK (ZA @S_at.eq_1 @SX_at.eq_1)
     · subst hv
       simp only [] at h
       simp only [ZC,SX_at,A40R4]
       obtain ⟨oZ26,hoZ26,h⟩:=bind_s h
       try refine ZF cZ4 ?_
       refine join_rule (o:=oZ26) (blk_rule sideR (loop_rule (w_au nZ0) hoZ26 ?_)) (fun vZ27 hv=>?_) (fun xZ28 hv e τ hne hq=>?_)
       · exact ZK (ZA @S_au.eq_1 @SX_au.eq_1)
       · subst hv
         simp only [] at h
         simp only [ZC,SX_au,A40R7]
         cases h
         exact ZL cZ4 @V40.eq_1
       · subst hv
         simp only [] at h
         obtain ⟨rfl,qZ29⟩:=hq
         cases h
         exact qZ29
     · subst hv
       simp only [] at h
       obtain ⟨rfl,qZ30⟩:=hq
       cases h
       exact qZ30
def S_aa (lZ0:List Int) (nZ0:Int) (v:Int):St:=⟨[(0,.lst .o 1 (lZ0.map AV.i)),(1,.i nZ0),(5,.i v)],[]⟩
def SX_aa (v:Unit):St:=⟨[],[]⟩
theorem w_aa (lZ0:List Int) (nZ0:Int) (sZ1:Int) (o:Int ⊕ (Unit ⊕ Bool)) (h:M_aa lZ0 nZ0 sZ1=some o):AWP (OkS Try.prog) A60L1 (qL [0,1,5] [] (S_aa lZ0 nZ0) (qS (qX 0 [] [] (SX_aa)) (qR V60 (fun r=>.b r))) o) (S_aa lZ0 nZ0 sZ1):=by
 unfold M_aa at h
 simp only [ZC,S_aa,A60L1]
 obtain ⟨cZ2,h⟩ | ⟨cZ2,h⟩:=cond_s h
 · obtain ⟨yZ3,hyZ3,h⟩:=bind_s h
   obtain ⟨hyZ3a,hyZ3b⟩:=geti_s hyZ3
   obtain ⟨cZ4,h⟩ | ⟨cZ4,h⟩:=cond_s h
   · cases h
     exact ZL (ZA cZ2 (ZA hyZ3a (ZA hyZ3b cZ4))) @V60.eq_1
   · cases h
     exact ZL (ZA cZ2 (ZA hyZ3a (ZA hyZ3b cZ4))) (ZA @S_aa.eq_1 @SX_aa.eq_1)
 · cases h
   exact ZL cZ2 (ZA @S_aa.eq_1 @SX_aa.eq_1)
theorem w_a (lZ0:List Int) (nZ0:Int) {r:Bool} (h:M_a lZ0 nZ0=some r):Ok Try.prog 60 [.lst .o 1 (lZ0.map AV.i),.i nZ0] ((fun r=>.b r) r):=by
 refine ok_of_body hmix m60 rfl ?_
 unfold M_a at h
 simp only [ZC,A60,V60,body_eq]
 obtain ⟨oZ5,hoZ5,h⟩:=bind_s h
 try refine ZF trivial ?_
 refine join_rule (o:=oZ5) (blk_rule sideR (loop_rule (w_aa lZ0 nZ0) hoZ5 ?_)) (fun vZ6 hv=>?_) (fun xZ7 hv e τ hne hq=>?_)
 · exact ZK (ZA @S_aa.eq_1 @SX_aa.eq_1)
 · subst hv
   simp only [] at h
   simp only [ZC,SX_aa,A60R2]
   cases h
   exact ZL trivial @V60.eq_1
 · subst hv
   simp only [] at h
   obtain ⟨rfl,qZ8⟩:=hq
   cases h
   exact qZ8
theorem w_bl (nZ0:TNetwork) (fiberZ0:Int) (nodeZ0:Int) {r:Int} (h:M_bl nZ0 fiberZ0 nodeZ0=some r):Ok Try.prog 99 [.agg [.lst .o 1 (nZ0.Nodes.map AV.z),.lst .o 4 (nZ0.Fibers.map (e_TFiber .o))],.i fiberZ0,.i nodeZ0] ((fun r=>.i r) r):=by
 refine ok_of_body hmix m99 rfl ?_
 unfold M_bl at h
 simp only [ZC,A99,V99,body_eq]
 obtain ⟨yZ1,hyZ1,h⟩:=bind_s h
 obtain ⟨hyZ1a,hyZ1b⟩:=geti_s hyZ1
 obtain ⟨cZ2,h⟩ | ⟨cZ2,h⟩:=cond_s h
 · cases h
   exact ZL (ZA hyZ1a (ZA hyZ1b cZ2)) @V99.eq_1
 · obtain ⟨cZ3,h⟩ | ⟨cZ3,h⟩:=cond_s h
   · cases h
     exact ZL (ZA hyZ1a (ZA hyZ1b (ZA cZ2 cZ3))) @V99.eq_1
   · cases h
     exact ZL (ZA hyZ1a (ZA hyZ1b (ZA cZ2 cZ3))) @V99.eq_1
def S_i (nZ0:TNetwork) (ringZ0:List Int) (fromZ0:Int) (v:Int×Int×List Int):St:=⟨[(1,.lst .o 1 (ringZ0.map AV.i)),(2,.i fromZ0),(3,.pt 3 0 0),(8,.sl 8 0 v.2.2.length),(9,.i v.1),(10,.i v.2.1)],[(3,.var (.agg [.lst .o 1 (nZ0.Nodes.map AV.z),.lst .o 4 (nZ0.Fibers.map (e_TFiber .o))])),(8,.arr 1 (v.2.2.map AV.i))]⟩
def SX_i (ringZ0:List Int) (fromZ0:Int) (v:Int×List Int):St:=⟨[(1,.lst .o 1 (ringZ0.map AV.i)),(2,.i fromZ0),(8,.sl 8 0 v.2.length),(9,.i v.1)],[(8,.arr 1 (v.2.map AV.i))]⟩
theorem w_i (nZ0:TNetwork) (ringZ0:List Int) (fromZ0:Int) (sZ1:Int×Int×List Int) (o:(Int×Int×List Int) ⊕ ((Int×List Int) ⊕ (List Int×Bool))) (h:M_i nZ0 ringZ0 sZ1=some o):AWP (OkS Try.prog) A76L2 (qL [1,2,3,8,9,10] [3,8] (S_i nZ0 ringZ0 fromZ0) (qS (qX 0 [1,2,8,9] [8] (SX_i ringZ0 fromZ0)) (qR V76 (fun r=>.tup [.lst .u 1 (r.1.map AV.i),.b r.2]))) o) (S_i nZ0 ringZ0 fromZ0 sZ1):=by
 unfold M_i at h
 simp only [ZC,S_i,A76L2]
 obtain ⟨cZ2,h⟩ | ⟨cZ2,h⟩:=cond_s h
 · obtain ⟨oZ10,hoZ10,h⟩:=bind_s h
   try refine ZF cZ2 ?_
   refine join_rule0 (sh:=(fun v=>⟨[(1,.lst .o 1 (ringZ0.map AV.i)),(2,.i fromZ0),(3,.pt 3 0 0),(8,.sl 8 0 sZ1.2.2.length),(9,.i sZ1.1),(10,.i sZ1.2.1),(43,.b v)],[(3,.var (.agg [.lst .o 1 (nZ0.Nodes.map AV.z),.lst .o 4 (nZ0.Fibers.map (e_TFiber .o))])),(8,.arr 1 (sZ1.2.2.map AV.i))]⟩)) (s:=oZ10) ?_ ?_
   · replace h:=hoZ10
     obtain ⟨yZ3,hyZ3,h⟩:=bind_s h
     obtain ⟨hyZ3a,hyZ3b⟩:=geti_s hyZ3
     obtain ⟨rZ4,hrZ4,h⟩:=bind_s h
     refine ZF (ZA cZ2 (ZA hyZ3a hyZ3b)) ?_
     refine ZS (ZA cZ2 (ZA hyZ3a hyZ3b)) (w_b _ _ _ hrZ4) ?_
     refine ZG ?_
     obtain ⟨cZ5,h⟩ | ⟨cZ5,h⟩:=cond_s h
     · cases h
       exact ZL (ZA cZ2 (ZA hyZ3a (ZA hyZ3b cZ5))) trivial
     · obtain ⟨lZ6,hlZ6,h⟩:=bind_s h
       obtain ⟨hlZ6a,hlZ6b,hlZ6c,hlZ6d,hlZ6e⟩:=slT_s AV.i hlZ6
       obtain ⟨rZ7,hrZ7,h⟩:=bind_s h
       refine ZF (ZA cZ2 (ZA hyZ3a (ZA hyZ3b (ZA cZ5 (ZA hlZ6a (ZA hlZ6b (ZA hlZ6c (ZA hlZ6d hlZ6e)))))))) ?_
       refine ZS (ZA cZ2 (ZA hyZ3a (ZA hyZ3b (ZA cZ5 (ZA hlZ6a (ZA hlZ6b (ZA hlZ6c (ZA hlZ6d hlZ6e)))))))) (w_a _ _ hrZ7) ?_
       refine ZG ?_
       obtain ⟨cZ8,h⟩ | ⟨cZ8,h⟩:=cond_s h
       · cases h
         exact ZL (ZA cZ2 (ZA hyZ3a (ZA hyZ3b (ZA cZ5 (ZA hlZ6a (ZA hlZ6b (ZA hlZ6c (ZA hlZ6d (ZA hlZ6e cZ8))))))))) trivial
       · obtain ⟨rZ9,hrZ9,h⟩:=bind_s h
         refine ZF (ZA cZ2 (ZA hyZ3a (ZA hyZ3b (ZA cZ5 (ZA hlZ6a (ZA hlZ6b (ZA hlZ6c (ZA hlZ6d (ZA hlZ6e cZ8))))))))) ?_
         refine ZS (ZA cZ2 (ZA hyZ3a (ZA hyZ3b (ZA cZ5 (ZA hlZ6a (ZA hlZ6b (ZA hlZ6c (ZA hlZ6d (ZA hlZ6e cZ8))))))))) (w_a _ _ hrZ9) ?_
         refine ZG ?_
         cases h
         exact ZL (ZA cZ2 (ZA hyZ3a (ZA hyZ3b (ZA cZ5 (ZA hlZ6a (ZA hlZ6b (ZA hlZ6c (ZA hlZ6d (ZA hlZ6e cZ8))))))))) trivial
   · simp only [ZC,A76R1]
     obtain ⟨cZ11,h⟩ | ⟨cZ11,h⟩:=cond_s h
     · cases h
       exact ZL (ZA cZ2 cZ11) @V76.eq_1
     · obtain ⟨lZ12,hlZ12,h⟩:=bnd_s h
       have eZ13:Row.arr 1 [(.i sZ1.1:AV)]=Row.arr 1 (lZ12.map AV.i):=by rw [← hlZ12]; rfl
       have jjZ14:lZ12.length=1:=by rw [← hlZ12]; rfl
       obtain ⟨uZ15,huZ15,h⟩:=bind_s h
       have huZ15g:=grd_s huZ15
       obtain ⟨lZ16,hlZ16,h⟩:=bnd_s h
       have eZ17:sZ1.2.2.map AV.i++lZ12.map AV.i=lZ16.map AV.i:=by rw [← hlZ16,List.map_append]
       have eZ18:sZ1.2.2.length+1=lZ16.length:=by simp [← hlZ12,← hlZ16] <;> omega
       rw [eZ18] at huZ15g
       obtain ⟨yZ19,hyZ19,h⟩:=bind_s h
       obtain ⟨hyZ19a,hyZ19b⟩:=geti_s hyZ19
       obtain ⟨rZ20,hrZ20,h⟩:=bind_s h
       refine ZF (ZA cZ2 (ZA cZ11 (ZA eZ13 (ZA jjZ14 (ZA huZ15g (ZA eZ17 (ZA eZ18 (ZA hyZ19a hyZ19b)))))))) ?_
       refine ZS (ZA cZ2 (ZA cZ11 (ZA eZ13 (ZA jjZ14 (ZA huZ15g (ZA eZ17 (ZA eZ18 (ZA hyZ19a hyZ19b)))))))) (w_bl _ _ _ hrZ20) ?_
       refine ZG ?_
       obtain ⟨cZ21,h⟩ | ⟨cZ21,h⟩:=cond_s h
       · cases h
         exact ZL (ZA cZ2 (ZA cZ11 (ZA eZ13 (ZA jjZ14 (ZA huZ15g (ZA eZ17 (ZA eZ18 (ZA hyZ19a (ZA hyZ19b cZ21))))))))) (ZA @V76.eq_1 (ZA hlZ12.symm (ZA hlZ16.symm jjZ14)))
       · cases h
         exact ZL (ZA cZ2 (ZA cZ11 (ZA eZ13 (ZA jjZ14 (ZA huZ15g (ZA eZ17 (ZA eZ18 (ZA hyZ19a (ZA hyZ19b cZ21))))))))) (ZA @S_i.eq_1 (ZA @SX_i.eq_1 (ZA hlZ12.symm (ZA hlZ16.symm jjZ14))))
 · cases h
   exact ZL cZ2 (ZA @S_i.eq_1 @SX_i.eq_1)
theorem w_bq (nZ0:TNetwork) (ringZ0:List Int) (fromZ0:Int) {r:List Int×Bool} (h:M_bq nZ0 ringZ0 fromZ0=some r):Ok Try.prog 76 [.agg [.lst .o 1 (nZ0.Nodes.map AV.z),.lst .o 4 (nZ0.Fibers.map (e_TFiber .o))],.lst .o 1 (ringZ0.map AV.i),.i fromZ0] ((fun r=>.tup [.lst .u 1 (r.1.map AV.i),.b r.2]) r):=by
 refine ok_of_body hmix m76 rfl ?_
 unfold M_bq at h
 simp only [ZC,A76,V76,body_eq]
 obtain ⟨oZ22,hoZ22,h⟩:=bind_s h
 try refine ZF trivial ?_
 refine join_rule (o:=oZ22) (blk_rule sideR (loop_rule (w_i nZ0 ringZ0 fromZ0) hoZ22 ?_)) (fun vZ23 hv=>?_) (fun xZ24 hv e τ hne hq=>?_)
 · exact ZK (ZA @S_i.eq_1 @SX_i.eq_1)
 · subst hv
   simp only [] at h
   simp only [ZC,SX_i,A76R3]
   obtain ⟨cZ25,h⟩ | ⟨cZ25,h⟩:=cond_s h
   · cases h
     exact ZL cZ25 @V76.eq_1
   · cases h
     exact ZL cZ25 @V76.eq_1
 · subst hv
   simp only [] at h
   obtain ⟨rfl,qZ26⟩:=hq
   cases h
   exact qZ26
def S_l (ringZ0:List Int) (v:Int×List Int):St:=⟨[(0,.lst .o 1 (ringZ0.map AV.i)),(3,.sl 3 0 v.2.length),(4,.i v.1)],[(3,.arr 1 (v.2.map AV.i))]⟩
def SX_l (v:List Int):St:=⟨[(3,.sl 3 0 v.length)],[(3,.arr 1 (v.map AV.i))]⟩
theorem w_l (ringZ0:List Int) (sZ1:Int×List Int) (o:(Int×List Int) ⊕ (List Int)) (h:M_l ringZ0 sZ1=some o):AWP (OkS Try.prog) A78L1 (qL [0,3,4] [3] (S_l ringZ0) (qX 0 [3] [3] (SX_l)) o) (S_l ringZ0 sZ1):=by
 unfold M_l at h
 simp only [ZC,S_l,A78L1]
 obtain ⟨cZ2,h⟩ | ⟨cZ2,h⟩:=cond_s h
 · obtain ⟨yZ3,hyZ3,h⟩:=bind_s h
   obtain ⟨hyZ3a,hyZ3b⟩:=geti_s hyZ3
   obtain ⟨lZ4,hlZ4,h⟩:=bnd_s h
   have eZ5:Row.arr 1 [(.i yZ3:AV)]=Row.arr 1 (lZ4.map AV.i):=by rw [← hlZ4]; rfl
   have jjZ6:lZ4.length=1:=by rw [← hlZ4]; rfl
   obtain ⟨uZ7,huZ7,h⟩:=bind_s h
   have huZ7g:=grd_s huZ7
   obtain ⟨lZ8,hlZ8,h⟩:=bnd_s h
   have eZ9:sZ1.2.map AV.i++lZ4.map AV.i=lZ8.map AV.i:=by rw [← hlZ8,List.map_append]
   have eZ10:sZ1.2.length+1=lZ8.length:=by simp [← hlZ4,← hlZ8] <;> omega
   rw [eZ10] at huZ7g
   cases h
   exact ZL (ZA cZ2 (ZA hyZ3a (ZA hyZ3b (ZA eZ5 (ZA jjZ6 (ZA huZ7g (ZA eZ9 eZ10))))))) (ZA @S_l.eq_1 (ZA @SX_l.eq_1 (ZA hlZ4.symm (ZA hlZ8.symm jjZ6))))
 · cases h
   exact ZL cZ2 (ZA @S_l.eq_1 @SX_l.eq_1)
theorem w_cd (ringZ0:List Int) {r:List Int} (h:M_cd ringZ0=some r):Ok Try.prog 78 [.lst .o 1 (ringZ0.map AV.i)] ((fun r=>.lst .u 1 (r.map AV.i)) r):=by
 refine ok_of_body hmix m78 rfl ?_
 unfold M_cd at h
 simp only [ZC,A78,V78,body_eq]
 obtain ⟨oZ11,hoZ11,h⟩:=bind_s h
 try refine ZF trivial ?_
 refine join_rule0 (blk_rule0 (loop_rule (w_l ringZ0) hoZ11 ?_)) ?_
 · exact ZK (ZA @S_l.eq_1 @SX_l.eq_1)
 · simp only [ZC,SX_l,A78R2]
   cases h
   exact ZL trivial @V78.eq_1
def S_u (aZ0:List Int) (bZ0:List Int) (v:Int):St:=⟨[(0,.lst .o 1 (aZ0.map AV.i)),(1,.lst .o 1 (bZ0.map AV.i)),(5,.i v)],[]⟩
def SX_u (v:Unit):St:=⟨[],[]⟩
theorem w_u (aZ0:List Int) (bZ0:List Int) (sZ2:Int) (o:Int ⊕ (Unit ⊕ Bool)) (h:M_u aZ0 bZ0 sZ2=some o):AWP (OkS Try.prog) A77L1 (qL [0,1,5] [] (S_u aZ0 bZ0) (qS (qX 0 [] [] (SX_u)) (qR V77 (fun r=>.b r))) o) (S_u aZ0 bZ0 sZ2):=by
 unfold M_u at h
 simp only [ZC,S_u,A77L1]
 obtain ⟨cZ3,h⟩ | ⟨cZ3,h⟩:=cond_s h
 · obtain ⟨yZ4,hyZ4,h⟩:=bind_s h
   obtain ⟨hyZ4a,hyZ4b⟩:=geti_s hyZ4
   obtain ⟨yZ5,hyZ5,h⟩:=bind_s h
   obtain ⟨hyZ5a,hyZ5b⟩:=geti_s hyZ5
   obtain ⟨cZ6,h⟩ | ⟨cZ6,h⟩:=cond_s h
   · cases h
     exact ZL (ZA cZ3 (ZA hyZ4a (ZA hyZ4b (ZA hyZ5a (ZA hyZ5b cZ6))))) @V77.eq_1
   · cases h
     exact ZL (ZA cZ3 (ZA hyZ4a (ZA hyZ4b (ZA hyZ5a (ZA hyZ5b cZ6))))) (ZA @S_u.eq_1 @SX_u.eq_1)
 · cases h
   exact ZL cZ3 (ZA @S_u.eq_1 @SX_u.eq_1)
theorem w_cl (aZ0:List Int) (bZ0:List Int) {r:Bool} (h:M_cl aZ0 bZ0=some r):Ok Try.prog 77 [.lst .o 1 (aZ0.map AV.i),.lst .o 1 (bZ0.map AV.i)] ((fun r=>.b r) r):=by
 refine ok_of_body hmix m77 rfl ?_
 unfold M_cl at h
 simp only [ZC,A77,V77,body_eq]
 obtain ⟨cZ1,h⟩ | ⟨cZ1,h⟩:=cond_s h
 · cases h
   exact ZL cZ1 @V77.eq_1
 · obtain ⟨oZ7,hoZ7,h⟩:=bind_s h
   try refine ZF cZ1 ?_
   refine join_rule (o:=oZ7) (blk_rule sideR (loop_rule (w_u aZ0 bZ0) hoZ7 ?_)) (fun vZ8 hv=>?_) (fun xZ9 hv e τ hne hq=>?_)
   · exact ZK (ZA @S_u.eq_1 @SX_u.eq_1)
   · subst hv
     simp only [] at h
     simp only [ZC,SX_u,A77R2]
     cases h
     exact ZL cZ1 @V77.eq_1
   · subst hv
     simp only [] at h
     obtain ⟨rfl,qZ10⟩:=hq
     cases h
     exact qZ10
def S_d (ringZ0:List Int) (sZ1:Int) (rZ3:List Int×Bool) (v:Bool×Int):St:=⟨[(1,.lst .o 1 (ringZ0.map AV.i)),(5,.i sZ1),(6,.sl 6 0 rZ3.1.length),(8,.b v.1),(9,.i v.2)],[(6,.arr 1 (rZ3.1.map AV.i))]⟩
def SX_d (ringZ0:List Int) (v:Bool):St:=⟨[(1,.lst .o 1 (ringZ0.map AV.i)),(8,.b v)],[]⟩
theorem w_d (ringZ0:List Int) (sZ1:Int) (rZ3:List Int×Bool) (sZ5:Bool×Int) (o:(Bool×Int) ⊕ Bool) (h:M_d sZ1 rZ3 sZ5=some o):AWP (OkS Try.prog) A41L1 (qL [1,5,6,8,9] [6] (S_d ringZ0 sZ1 rZ3) (qX 2 [1,8] [] (SX_d ringZ0)) o) (S_d ringZ0 sZ1 rZ3 sZ5):=by
 unfold M_d at h
 simp only [ZC,S_d,A41L1]
 obtain ⟨cZ6,h⟩ | ⟨cZ6,h⟩:=cond_s h
 · obtain ⟨cZ7,h⟩ | ⟨cZ7,h⟩:=cond_s h
   · obtain ⟨kZ8,hkZ8,h⟩:=bind_s h
     obtain ⟨hkZ8a,hkZ8b⟩:=grd_s hkZ8
     obtain ⟨yZ9,hyZ9,h⟩:=bind_s h
     cases h
     exact ZL (ZA cZ6 (ZA cZ7 (ZA hkZ8a (ZA hkZ8b hyZ9)))) (ZA @S_d.eq_1 @SX_d.eq_1)
   · cases h
     exact ZL (ZA cZ6 cZ7) (ZA @S_d.eq_1 @SX_d.eq_1)
 · cases h
   exact ZL cZ6 (ZA @S_d.eq_1 @SX_d.eq_1)
def S_v (nZ0:TNetwork) (ringZ0:List Int) (v:Int):St:=⟨[(1,.lst .o 1 (ringZ0.map AV.i)),(2,.pt 2 0 0),(5,.i v)],[(2,.var (.agg [.lst .o 1 (nZ0.Nodes.map AV.z),.lst .o 4 (nZ0.Fibers.map (e_TFiber .o))]))]⟩
def SX_v (v:Unit):St:=⟨[],[]⟩
theorem w_v (nZ0:TNetwork) (ringZ0:List Int) (sZ1:Int) (o:Int ⊕ (Unit ⊕ Bool)) (h:M_v nZ0 ringZ0 sZ1=some o):AWP (OkS Try.prog) A41L3 (qL [1,2,5] [2] (S_v nZ0 ringZ0) (qS (qX 0 [] [] (SX_v)) (qR V41 (fun r=>.b r))) o) (S_v nZ0 ringZ0 sZ1):=by
 unfold M_v at h
 simp only [ZC,S_v,A41L3]
 obtain ⟨cZ2,h⟩ | ⟨cZ2,h⟩:=cond_s h
 · obtain ⟨rZ3,hrZ3,h⟩:=bind_s h
   refine ZF cZ2 ?_
   refine ZU cZ2 (w_bq _ _ _ hrZ3) ?_
   refine ZG ?_
   obtain ⟨cZ4,h⟩ | ⟨cZ4,h⟩:=cond_s h
   · cases h
     exact ZL (ZA cZ2 cZ4) (ZA @S_v.eq_1 @SX_v.eq_1)
   · obtain ⟨oZ10,hoZ10,h⟩:=bind_s h
     try refine ZF (ZA cZ2 cZ4) ?_
     refine join_rule0 (blk_rule0 (loop_rule (w_d ringZ0 sZ1 rZ3) hoZ10 ?_)) ?_
     · exact ZK (ZA @S_d.eq_1 @SX_d.eq_1)
     · simp only [ZC,SX_d,A41R2]
       obtain ⟨cZ11,h⟩ | ⟨cZ11,h⟩:=cond_s h
       · obtain ⟨rZ12,hrZ12,h⟩:=bind_s h
         refine ZF (ZA cZ2 (ZA cZ4 cZ11)) ?_
         refine ZU (ZA cZ2 (ZA cZ4 cZ11)) (w_cd _ hrZ12) ?_
         refine ZG ?_
         obtain ⟨rZ13,hrZ13,h⟩:=bind_s h
         refine ZF (ZA cZ2 (ZA cZ4 cZ11)) ?_
         refine ZS (ZA cZ2 (ZA cZ4 cZ11)) (w_cl _ _ hrZ13) ?_
         refine ZG ?_
         cases h
         exact ZL (ZA cZ2 (ZA cZ4 cZ11)) @V41.eq_1
       · cases h
         exact ZL (ZA cZ2 (ZA cZ4 cZ11)) @V41.eq_1
 · cases h
   exact ZL cZ2 (ZA @S_v.eq_1 @SX_v.eq_1)
theorem w_cm (nZ0:TNetwork) (ringZ0:List Int) {r:Bool} (h:M_cm nZ0 ringZ0=some r):Ok Try.prog 41 [.agg [.lst .o 1 (nZ0.Nodes.map AV.z),.lst .o 4 (nZ0.Fibers.map (e_TFiber .o))],.lst .o 1 (ringZ0.map AV.i)] ((fun r=>.b r) r):=by
 refine ok_of_body hmix m41 rfl ?_
 unfold M_cm at h
 simp only [ZC,A41,V41,body_eq]
 obtain ⟨oZ14,hoZ14,h⟩:=bind_s h
 try refine ZF trivial ?_
 refine join_rule (o:=oZ14) (blk_rule sideR (loop_rule (w_v nZ0 ringZ0) hoZ14 ?_)) (fun vZ15 hv=>?_) (fun xZ16 hv e τ hne hq=>?_)
 · exact ZK (ZA @S_v.eq_1 @SX_v.eq_1)
 · subst hv
   simp only [] at h
   simp only [ZC,SX_v,A41R4]
   cases h
   exact ZL trivial @V41.eq_1
 · subst hv
   simp only [] at h
   obtain ⟨rfl,qZ17⟩:=hq
   cases h
   exact qZ17
theorem w_dm (nZ0:TNetwork) (ringZ0:List Int) {r:Bool} (h:M_dm nZ0 ringZ0=some r):Ok Try.prog 11 [.agg [.lst .o 1 (nZ0.Nodes.map AV.z),.lst .o 4 (nZ0.Fibers.map (e_TFiber .o))],.lst .o 1 (ringZ0.map AV.i)] ((fun r=>.b r) r):=by
 refine ok_of_body hmix m11 rfl ?_
 unfold M_dm at h
 simp only [ZC,A11,V11,body_eq]
 obtain ⟨rZ1,hrZ1,h⟩:=bind_s h
 refine ZF trivial ?_
 refine ZS trivial (w_bw _ hrZ1) ?_
 refine ZG ?_
 obtain ⟨cZ2,h⟩ | ⟨cZ2,h⟩:=cond_s h
 · obtain ⟨rZ3,hrZ3,h⟩:=bind_s h
   refine ZF cZ2 ?_
   refine ZS cZ2 (w_cm _ _ hrZ3) ?_
   refine ZG ?_
   cases h
   exact ZL cZ2 @V11.eq_1
 · cases h
   exact ZL cZ2 @V11.eq_1
def S_av (nZ0:TNetwork) (ringZ0:List Int) (v:Int):St:=⟨[(1,.lst .o 1 (ringZ0.map AV.i)),(2,.pt 2 0 0),(5,.i v)],[(2,.var (.agg [.lst .o 1 (nZ0.Nodes.map AV.z),.lst .o 4 (nZ0.Fibers.map (e_TFiber .o))]))]⟩
def SX_av (v:Unit):St:=⟨[],[]⟩
theorem w_av (nZ0:TNetwork) (ringZ0:List Int) (sZ1:Int) (o:Int ⊕ (Unit ⊕ (List Int))) (h:M_av nZ0 ringZ0 sZ1=some o):AWP (OkS Try.prog) A46L1 (qL [1,2,5] [2] (S_av nZ0 ringZ0) (qS (qX 0 [] [] (SX_av)) (qR V46 (fun r=>.lst .u 1 (r.map AV.i)))) o) (S_av nZ0 ringZ0 sZ1):=by
 unfold M_av at h
 simp only [ZC,S_av,A46L1]
 obtain ⟨cZ2,h⟩ | ⟨cZ2,h⟩:=cond_s h
 · obtain ⟨rZ3,hrZ3,h⟩:=bind_s h
   refine ZF cZ2 ?_
   refine ZU cZ2 (w_bq _ _ _ hrZ3) ?_
   refine ZG ?_
   obtain ⟨cZ4,h⟩ | ⟨cZ4,h⟩:=cond_s h
   · cases h
     exact ZL (ZA cZ2 cZ4) @V46.eq_1
   · cases h
     exact ZL (ZA cZ2 cZ4) (ZA @S_av.eq_1 @SX_av.eq_1)
 · cases h
   exact ZL cZ2 (ZA @S_av.eq_1 @SX_av.eq_1)
theorem w_bx (nZ0:TNetwork) (ringZ0:List Int) {r:List Int} (h:M_bx nZ0 ringZ0=some r):Ok Try.prog 46 [.agg [.lst .o 1 (nZ0.Nodes.map AV.z),.lst .o 4 (nZ0.Fibers.map (e_TFiber .o))],.lst .o 1 (ringZ0.map AV.i)] ((fun r=>.lst .u 1 (r.map AV.i)) r):=by
 refine ok_of_body hmix m46 rfl ?_
 unfold M_bx at h
 simp only [ZC,A46,V46,body_eq]
 obtain ⟨oZ5,hoZ5,h⟩:=bind_s h
 try refine ZF trivial ?_
 refine join_rule (o:=oZ5) (blk_rule sideR (loop_rule (w_av nZ0 ringZ0) hoZ5 ?_)) (fun vZ6 hv=>?_) (fun xZ7 hv e τ hne hq=>?_)
 · exact ZK (ZA @S_av.eq_1 @SX_av.eq_1)
 · subst hv
   simp only [] at h
   simp only [ZC,SX_av,A46R2]
   cases h
   exact ZL trivial @V46.eq_1
 · subst hv
   simp only [] at h
   obtain ⟨rfl,qZ8⟩:=hq
   cases h
   exact qZ8
def S_c (nZ0:TNetwork) (ringZ0:List Int) (rZ1:List Int) (v:Int×List Int×List Int):St:=⟨[(1,.lst .o 1 (ringZ0.map AV.i)),(2,.pt 2 0 0),(6,.sl 6 0 v.2.1.length),(7,.sl 7 0 v.2.2.length),(8,.sl 8 0 rZ1.length),(9,.i v.1)],[(2,.var (.agg [.lst .o 1 (nZ0.Nodes.map AV.z),.lst .o 4 (nZ0.Fibers.map (e_TFiber .o))])),(6,.arr 1 (v.2.1.map AV.i)),(7,.arr 1 (v.2.2.map AV.i)),(8,.arr 1 (rZ1.map AV.i))]⟩
def SX_c (v:List Int×List Int):St:=⟨[(6,.sl 6 0 v.1.length),(7,.sl 7 0 v.2.length)],[(6,.arr 1 (v.1.map AV.i)),(7,.arr 1 (v.2.map AV.i))]⟩
theorem w_c (nZ0:TNetwork) (ringZ0:List Int) (rZ1:List Int) (sZ2:Int×List Int×List Int) (o:(Int×List Int×List Int) ⊕ (List Int×List Int)) (h:M_c nZ0 ringZ0 rZ1 sZ2=some o):AWP (OkS Try.prog) A51L2 (qL [1,2,6,7,8,9] [2,6,7,8] (S_c nZ0 ringZ0 rZ1) (qX 0 [6,7] [6,7] (SX_c)) o) (S_c nZ0 ringZ0 rZ1 sZ2):=by
 unfold M_c at h
 simp only [ZC,S_c,A51L2]
 obtain ⟨cZ3,h⟩ | ⟨cZ3,h⟩:=cond_s h
 · obtain ⟨rZ4,hrZ4,h⟩:=bind_s h
   refine ZF cZ3 ?_
   refine ZS cZ3 (w_a _ _ hrZ4) ?_
   refine ZG ?_
   obtain ⟨cZ5,h⟩ | ⟨cZ5,h⟩:=cond_s h
   · obtain ⟨lZ6,hlZ6,h⟩:=bnd_s h
     have eZ7:Row.arr 1 [(.i sZ2.1:AV)]=Row.arr 1 (lZ6.map AV.i):=by rw [← hlZ6]; rfl
     have jjZ8:lZ6.length=1:=by rw [← hlZ6]; rfl
     obtain ⟨uZ9,huZ9,h⟩:=bind_s h
     have huZ9g:=grd_s huZ9
     obtain ⟨lZ10,hlZ10,h⟩:=bnd_s h
     have eZ11:sZ2.2.1.map AV.i++lZ6.map AV.i=lZ10.map AV.i:=by rw [← hlZ10,List.map_append]
     have eZ12:sZ2.2.1.length+1=lZ10.length:=by simp [← hlZ6,← hlZ10] <;> omega
     rw [eZ12] at huZ9g
     cases h
     exact ZL (ZA cZ3 (ZA cZ5 (ZA eZ7 (ZA jjZ8 (ZA huZ9g (ZA eZ11 eZ12)))))) (ZA @S_c.eq_1 (ZA @SX_c.eq_1 (ZA hlZ6.symm (ZA hlZ10.symm jjZ8))))
   · obtain ⟨oZ17,hoZ17,h⟩:=bind_s h
     try refine ZF (ZA cZ3 cZ5) ?_
     refine join_rule0 (sh:=(fun v=>⟨[(1,.lst .o 1 (ringZ0.map AV.i)),(2,.pt 2 0 0),(6,.sl 6 0 sZ2.2.1.length),(7,.sl 7 0 sZ2.2.2.length),(8,.sl 8 0 rZ1.length),(9,.i sZ2.1),(30,.b v)],[(2,.var (.agg [.lst .o 1 (nZ0.Nodes.map AV.z),.lst .o 4 (nZ0.Fibers.map (e_TFiber .o))])),(6,.arr 1 (sZ2.2.1.map AV.i)),(7,.arr 1 (sZ2.2.2.map AV.i)),(8,.arr 1 (rZ1.map AV.i))]⟩)) (s:=oZ17) ?_ ?_
     · replace h:=hoZ17
       obtain ⟨yZ13,hyZ13,h⟩:=bind_s h
       obtain ⟨hyZ13a,hyZ13b⟩:=geti_s hyZ13
       obtain ⟨rZ14,hrZ14,h⟩:=bind_s h
       refine ZF (ZA cZ3 (ZA cZ5 (ZA hyZ13a hyZ13b))) ?_
       refine ZS (ZA cZ3 (ZA cZ5 (ZA hyZ13a hyZ13b))) (w_a _ _ hrZ14) ?_
       refine ZG ?_
       obtain ⟨cZ15,h⟩ | ⟨cZ15,h⟩:=cond_s h
       · obtain ⟨rZ16,hrZ16,h⟩:=bind_s h
         refine ZF (ZA cZ3 (ZA cZ5 (ZA hyZ13a (ZA hyZ13b cZ15)))) ?_
         refine ZS (ZA cZ3 (ZA cZ5 (ZA hyZ13a (ZA hyZ13b cZ15)))) (w_a _ _ hrZ16) ?_
         refine ZG ?_
         cases h
         exact ZL (ZA cZ3 (ZA cZ5 (ZA hyZ13a (ZA hyZ13b cZ15)))) trivial
       · cases h
         exact ZL (ZA cZ3 (ZA cZ5 (ZA hyZ13a (ZA hyZ13b cZ15)))) trivial
     · simp only [ZC,A51R1]
       obtain ⟨cZ18,h⟩ | ⟨cZ18,h⟩:=cond_s h
       · obtain ⟨lZ19,hlZ19,h⟩:=bnd_s h
         have eZ20:Row.arr 1 [(.i sZ2.1:AV)]=Row.arr 1 (lZ19.map AV.i):=by rw [← hlZ19]; rfl
         have jjZ21:lZ19.length=1:=by rw [← hlZ19]; rfl
         obtain ⟨uZ22,huZ22,h⟩:=bind_s h
         have huZ22g:=grd_s huZ22
         obtain ⟨lZ23,hlZ23,h⟩:=bnd_s h
         have eZ24:sZ2.2.2.map AV.i++lZ19.map AV.i=lZ23.map AV.i:=by rw [← hlZ23,List.map_append]
         have eZ25:sZ2.2.2.length+1=lZ23.length:=by simp [← hlZ19,← hlZ23] <;> omega
         rw [eZ25] at huZ22g
         cases h
         exact ZL (ZA cZ3 (ZA cZ5 (ZA cZ18 (ZA eZ20 (ZA jjZ21 (ZA huZ22g (ZA eZ24 eZ25))))))) (ZA @S_c.eq_1 (ZA @SX_c.eq_1 (ZA hlZ19.symm (ZA hlZ23.symm jjZ21))))
       · cases h
         exact ZL (ZA cZ3 (ZA cZ5 cZ18)) (ZA @S_c.eq_1 @SX_c.eq_1)
 · cases h
   exact ZL cZ3 (ZA @S_c.eq_1 @SX_c.eq_1)
theorem w_dp (nZ0:TNetwork) (ringZ0:List Int) {r:List Int×List Int} (h:M_dp nZ0 ringZ0=some r):Ok Try.prog 51 [.agg [.lst .o 1 (nZ0.Nodes.map AV.z),.lst .o 4 (nZ0.Fibers.map (e_TFiber .o))],.lst .o 1 (ringZ0.map AV.i)] ((fun r=>.tup [.lst .u 1 (r.1.map AV.i),.lst .u 1 (r.2.map AV.i)]) r):=by
 refine ok_of_body hmix m51 rfl ?_
 unfold M_dp at h
 simp only [ZC,A51,V51,body_eq]
 obtain ⟨rZ1,hrZ1,h⟩:=bind_s h
 refine ZF trivial ?_
 refine ZU trivial (w_bx _ _ hrZ1) ?_
 refine ZG ?_
 obtain ⟨oZ26,hoZ26,h⟩:=bind_s h
 try refine ZF trivial ?_
 refine join_rule0 (blk_rule0 (loop_rule (w_c nZ0 ringZ0 rZ1) hoZ26 ?_)) ?_
 · exact ZK (ZA @S_c.eq_1 @SX_c.eq_1)
 · simp only [ZC,SX_c,A51R3]
   cases h
   exact ZL trivial @V51.eq_1
def S_o (nZ0:TNetwork) (ringZ0:List Int) (fromZ0:Int) (toZ0:Int) (rZ1:List Int) (v:Int):St:=⟨[(1,.lst .o 1 (ringZ0.map AV.i)),(2,.i fromZ0),(3,.i toZ0),(4,.pt 4 0 0),(8,.pt 8 0 0),(9,.sl 9 0 rZ1.length),(10,.i v)],[(4,.var (.agg [.lst .o 1 (nZ0.Nodes.map AV.z),.lst .o 4 (nZ0.Fibers.map (e_TFiber .o))])),(8,.var (.agg [.i 0,.lst .u 1 []])),(9,.arr 1 (rZ1.map AV.i))]⟩
def SX_o (nZ0:TNetwork) (ringZ0:List Int) (fromZ0:Int) (toZ0:Int) (v:Int):St:=⟨[(1,.lst .o 1 (ringZ0.map AV.i)),(2,.i fromZ0),(3,.i toZ0),(4,.pt 4 0 0),(8,.pt 8 0 0),(10,.i v)],[(4,.var (.agg [.lst .o 1 (nZ0.Nodes.map AV.z),.lst .o 4 (nZ0.Fibers.map (e_TFiber .o))])),(8,.var (.agg [.i 0,.lst .u 1 []]))]⟩
theorem w_o (nZ0:TNetwork) (ringZ0:List Int) (fromZ0:Int) (toZ0:Int) (rZ1:List Int) (sZ2:Int) (o:Int ⊕ Int) (h:M_o fromZ0 rZ1 sZ2=some o):AWP (OkS Try.prog) A61L1 (qL [1,2,3,4,8,9,10] [4,8,9] (S_o nZ0 ringZ0 fromZ0 toZ0 rZ1) (qX 0 [1,2,3,4,8,10] [4,8] (SX_o nZ0 ringZ0 fromZ0 toZ0)) o) (S_o nZ0 ringZ0 fromZ0 toZ0 rZ1 sZ2):=by
 unfold M_o at h
 simp only [ZC,S_o,A61L1]
 obtain ⟨kZ3,hkZ3,h⟩:=bind_s h
 obtain ⟨hkZ3a,hkZ3b⟩:=grd_s hkZ3
 obtain ⟨yZ4,hyZ4,h⟩:=bind_s h
 obtain ⟨cZ5,h⟩ | ⟨cZ5,h⟩:=cond_s h
 · cases h
   exact ZL (ZA hkZ3a (ZA hkZ3b (ZA hyZ4 cZ5))) (ZA @S_o.eq_1 @SX_o.eq_1)
 · cases h
   exact ZL (ZA hkZ3a (ZA hkZ3b (ZA hyZ4 cZ5))) (ZA @S_o.eq_1 @SX_o.eq_1)
def S_p (nZ0:TNetwork) (ringZ0:List Int) (fromZ0:Int) (toZ0:Int) (v:Int×Int×List Int):St:=⟨[(1,.lst .o 1 (ringZ0.map AV.i)),(3,.i toZ0),(4,.pt 4 0 0),(8,.pt 8 0 0),(10,.i v.1),(11,.pt 11 0 0),(12,.i v.2.1)],[(4,.var (.agg [.lst .o 1 (nZ0.Nodes.map AV.z),.lst .o 4 (nZ0.Fibers.map (e_TFiber .o))])),(8,.var (.agg [.i 0,.lst .u 1 []])),(11,.var (.agg [.i fromZ0,.sl 500000705 0 v.2.2.length])),(500000705,.arr 1 (v.2.2.map AV.i))]⟩
def SX_p (fromZ0:Int) (v:List Int):St:=⟨[(8,.pt 8 0 0),(11,.pt 11 0 0)],[(8,.var (.agg [.i 0,.lst .u 1 []])),(11,.var (.agg [.i fromZ0,.sl 500000705 0 v.length])),(500000705,.arr 1 (v.map AV.i))]⟩
theorem w_p (nZ0:TNetwork) (ringZ0:List Int) (fromZ0:Int) (toZ0:Int) (sZ7:Int×Int×List Int) (o:(Int×Int×List Int) ⊕ (List Int)) (h:M_p nZ0 ringZ0 toZ0 sZ7=some o):AWP (OkS Try.prog) A61L3 (qL [1,3,4,8,10,11,12] [4,8,11,500000705] (S_p nZ0 ringZ0 fromZ0 toZ0) (qX 2 [8,11] [8,11,500000705] (SX_p fromZ0)) o) (S_p nZ0 ringZ0 fromZ0 toZ0 sZ7):=by
 unfold M_p at h
 simp only [ZC,S_p,A61L3]
 obtain ⟨cZ8,h⟩ | ⟨cZ8,h⟩:=cond_s h
 · obtain ⟨yZ9,hyZ9,h⟩:=bind_s h
   obtain ⟨hyZ9a,hyZ9b⟩:=geti_s hyZ9
   obtain ⟨lZ10,hlZ10,h⟩:=bnd_s h
   have eZ11:Row.arr 1 [(.i yZ9:AV)]=Row.arr 1 (lZ10.map AV.i):=by rw [← hlZ10]; rfl
   have jjZ12:lZ10.length=1:=by rw [← hlZ10]; rfl
   obtain ⟨uZ13,huZ13,h⟩:=bind_s h
   have huZ13g:=grd_s huZ13
   obtain ⟨lZ14,hlZ14,h⟩:=bnd_s h
   have eZ15:sZ7.2.2.map AV.i++lZ10.map AV.i=lZ14.map AV.i:=by rw [← hlZ14,List.map_append]
   have eZ16:sZ7.2.2.length+1=lZ14.length:=by simp [← hlZ10,← hlZ14] <;> omega
   rw [eZ16] at huZ13g
   obtain ⟨rZ17,hrZ17,h⟩:=bind_s h
   refine ZF (ZA cZ8 (ZA hyZ9a (ZA hyZ9b (ZA eZ11 (ZA jjZ12 (ZA huZ13g (ZA eZ15 eZ16))))))) ?_
   refine ZS (ZA cZ8 (ZA hyZ9a (ZA hyZ9b (ZA eZ11 (ZA jjZ12 (ZA huZ13g (ZA eZ15 eZ16))))))) (w_bl _ _ _ hrZ17) ?_
   refine ZG ?_
   obtain ⟨uZ18,huZ18,h⟩:=bind_s h
   have huZ18g:=grd_s huZ18
   cases h
   exact ZL (ZA cZ8 (ZA hyZ9a (ZA hyZ9b (ZA eZ11 (ZA jjZ12 (ZA huZ13g (ZA eZ15 (ZA eZ16 huZ18g)))))))) (ZA @S_p.eq_1 (ZA @SX_p.eq_1 (ZA hlZ10.symm (ZA hlZ14.symm jjZ12))))
 · cases h
   exact ZL cZ8 (ZA @S_p.eq_1 @SX_p.eq_1)
theorem w_by (nZ0:TNetwork) (ringZ0:List Int) (fromZ0:Int) (toZ0:Int) {r:TRoute} (h:M_by nZ0 ringZ0 fromZ0 toZ0=some r):Ok Try.prog 61 [.agg [.lst .o 1 (nZ0.Nodes.map AV.z),.lst .o 4 (nZ0.Fibers.map (e_TFiber .o))],.lst .o 1 (ringZ0.map AV.i),.i fromZ0,.i toZ0] ((fun r=>.agg [.i r.Start,.lst .u 1 (r.Fibers.map AV.i)]) r):=by
 refine ok_of_body hmix m61 rfl ?_
 unfold M_by at h
 simp only [ZC,A61,V61,body_eq]
 obtain ⟨rZ1,hrZ1,h⟩:=bind_s h
 refine ZF trivial ?_
 refine ZU trivial (w_bx _ _ hrZ1) ?_
 refine ZG ?_
 obtain ⟨oZ6,hoZ6,h⟩:=bind_s h
 try refine ZF trivial ?_
 refine join_rule0 (blk_rule0 (loop_rule (w_o nZ0 ringZ0 fromZ0 toZ0 rZ1) hoZ6 ?_)) ?_
 · exact ZK (ZA @S_o.eq_1 @SX_o.eq_1)
 · simp only [ZC,SX_o,A61R2]
   obtain ⟨oZ19,hoZ19,h⟩:=bind_s h
   try refine ZF trivial ?_
   refine join_rule0 (blk_rule0 (loop_rule (w_p nZ0 ringZ0 fromZ0 toZ0) hoZ19 ?_)) ?_
   · exact ZK (ZA @S_p.eq_1 @SX_p.eq_1)
   · simp only [ZC,SX_p,A61R4]
     cases h
     exact ZL trivial @V61.eq_1
def S_q (nZ0:TNetwork) (rZ0:TRoute) (v:Int×List Int):St:=⟨[(2,.pt 2 0 0),(3,.pt 3 0 0),(6,.sl 6 0 v.2.length),(7,.i v.1)],[(2,.var (.agg [.lst .o 1 (nZ0.Nodes.map AV.z),.lst .o 4 (nZ0.Fibers.map (e_TFiber .o))])),(3,.var (.agg [.i rZ0.Start,.lst .o 1 (rZ0.Fibers.map AV.i)])),(6,.arr 1 (v.2.map AV.i))]⟩
def SX_q (v:List Int):St:=⟨[(6,.sl 6 0 v.length)],[(6,.arr 1 (v.map AV.i))]⟩
theorem w_q (nZ0:TNetwork) (rZ0:TRoute) (sZ8:Int×List Int) (o:(Int×List Int) ⊕ ((List Int) ⊕ (List Int×Bool))) (h:M_q nZ0 rZ0 sZ8=some o):AWP (OkS Try.prog) A115L3 (qL [2,3,6,7] [2,3,6] (S_q nZ0 rZ0) (qS (qX 0 [6] [6] (SX_q)) (qR V115 (fun r=>.tup [.lst .u 1 (r.1.map AV.i),.b r.2]))) o) (S_q nZ0 rZ0 sZ8):=by
 unfold M_q at h
 simp only [ZC,S_q,A115L3]
 obtain ⟨cZ9,h⟩ | ⟨cZ9,h⟩:=cond_s h
 · obtain ⟨yZ10,hyZ10,h⟩:=bind_s h
   obtain ⟨hyZ10a,hyZ10b⟩:=geti_s hyZ10
   obtain ⟨rZ11,hrZ11,h⟩:=bind_s h
   refine ZF (ZA cZ9 (ZA hyZ10a hyZ10b)) ?_
   refine ZS (ZA cZ9 (ZA hyZ10a hyZ10b)) (w_b _ _ _ hrZ11) ?_
   refine ZG ?_
   obtain ⟨cZ12,h⟩ | ⟨cZ12,h⟩:=cond_s h
   · cases h
     exact ZL (ZA cZ9 (ZA hyZ10a (ZA hyZ10b cZ12))) @V115.eq_1
   · obtain ⟨kZ13,hkZ13,h⟩:=bind_s h
     obtain ⟨hkZ13a,hkZ13b⟩:=grd_s hkZ13
     obtain ⟨yZ14,hyZ14,h⟩:=bind_s h
     obtain ⟨rZ15,hrZ15,h⟩:=bind_s h
     refine ZF (ZA cZ9 (ZA hyZ10a (ZA hyZ10b (ZA cZ12 (ZA hkZ13a (ZA hkZ13b hyZ14)))))) ?_
     refine ZS (ZA cZ9 (ZA hyZ10a (ZA hyZ10b (ZA cZ12 (ZA hkZ13a (ZA hkZ13b hyZ14)))))) (w_bl _ _ _ hrZ15) ?_
     refine ZG ?_
     obtain ⟨oZ18,hoZ18,h⟩:=bind_s h
     try refine ZF (ZA cZ9 (ZA hyZ10a (ZA hyZ10b (ZA cZ12 (ZA hkZ13a (ZA hkZ13b hyZ14)))))) ?_
     refine join_rule0 (sh:=(fun v=>⟨[(2,.pt 2 0 0),(3,.pt 3 0 0),(6,.sl 6 0 sZ8.2.length),(7,.i sZ8.1),(8,.i rZ15),(65,.b v)],[(2,.var (.agg [.lst .o 1 (nZ0.Nodes.map AV.z),.lst .o 4 (nZ0.Fibers.map (e_TFiber .o))])),(3,.var (.agg [.i rZ0.Start,.lst .o 1 (rZ0.Fibers.map AV.i)])),(6,.arr 1 (sZ8.2.map AV.i))]⟩)) (s:=oZ18) ?_ ?_
     · replace h:=hoZ18
       obtain ⟨cZ16,h⟩ | ⟨cZ16,h⟩:=cond_s h
       · cases h
         exact ZL (ZA cZ9 (ZA hyZ10a (ZA hyZ10b (ZA cZ12 (ZA hkZ13a (ZA hkZ13b (ZA hyZ14 cZ16))))))) trivial
       · obtain ⟨rZ17,hrZ17,h⟩:=bind_s h
         refine ZF (ZA cZ9 (ZA hyZ10a (ZA hyZ10b (ZA cZ12 (ZA hkZ13a (ZA hkZ13b (ZA hyZ14 cZ16))))))) ?_
         refine ZS (ZA cZ9 (ZA hyZ10a (ZA hyZ10b (ZA cZ12 (ZA hkZ13a (ZA hkZ13b (ZA hyZ14 cZ16))))))) (w_a _ _ hrZ17) ?_
         refine ZG ?_
         cases h
         exact ZL (ZA cZ9 (ZA hyZ10a (ZA hyZ10b (ZA cZ12 (ZA hkZ13a (ZA hkZ13b (ZA hyZ14 cZ16))))))) trivial
     · simp only [ZC,A115R2]
       obtain ⟨cZ19,h⟩ | ⟨cZ19,h⟩:=cond_s h
       · cases h
         exact ZL (ZA cZ9 (ZA hyZ10a (ZA hyZ10b (ZA cZ12 (ZA hkZ13a (ZA hkZ13b (ZA hyZ14 cZ19))))))) @V115.eq_1
       · obtain ⟨lZ20,hlZ20,h⟩:=bnd_s h
         have eZ21:Row.arr 1 [(.i rZ15:AV)]=Row.arr 1 (lZ20.map AV.i):=by rw [← hlZ20]; rfl
         have jjZ22:lZ20.length=1:=by rw [← hlZ20]; rfl
         obtain ⟨uZ23,huZ23,h⟩:=bind_s h
         have huZ23g:=grd_s huZ23
         obtain ⟨lZ24,hlZ24,h⟩:=bnd_s h
         have eZ25:sZ8.2.map AV.i++lZ20.map AV.i=lZ24.map AV.i:=by rw [← hlZ24,List.map_append]
         have eZ26:sZ8.2.length+1=lZ24.length:=by simp [← hlZ20,← hlZ24] <;> omega
         rw [eZ26] at huZ23g
         cases h
         exact ZL (ZA cZ9 (ZA hyZ10a (ZA hyZ10b (ZA cZ12 (ZA hkZ13a (ZA hkZ13b (ZA hyZ14 (ZA cZ19 (ZA eZ21 (ZA jjZ22 (ZA huZ23g (ZA eZ25 eZ26)))))))))))) (ZA @S_q.eq_1 (ZA @SX_q.eq_1 (ZA hlZ20.symm (ZA hlZ24.symm jjZ22))))
 · cases h
   exact ZL cZ9 (ZA @S_q.eq_1 @SX_q.eq_1)
theorem w_bz (nZ0:TNetwork) (rZ0:TRoute) {r:List Int×Bool} (h:M_bz nZ0 rZ0=some r):Ok Try.prog 115 [.agg [.lst .o 1 (nZ0.Nodes.map AV.z),.lst .o 4 (nZ0.Fibers.map (e_TFiber .o))],.agg [.i rZ0.Start,.lst .o 1 (rZ0.Fibers.map AV.i)]] ((fun r=>.tup [.lst .u 1 (r.1.map AV.i),.b r.2]) r):=by
 refine ok_of_body hmix m115 rfl ?_
 unfold M_bz at h
 simp only [ZC,A115,V115,body_eq]
 obtain ⟨lZ1,hlZ1,h⟩:=bnd_s h
 have eZ2:Row.arr 1 [(.i rZ0.Start:AV)]=Row.arr 1 (lZ1.map AV.i):=by rw [← hlZ1]; rfl
 have jjZ3:lZ1.length=1:=by rw [← hlZ1]; rfl
 obtain ⟨oZ6,hoZ6,h⟩:=bind_s h
 try refine ZF (ZA eZ2 jjZ3) ?_
 refine join_rule0 (sh:=(fun v=>⟨[(2,.pt 2 0 0),(3,.pt 3 0 0),(6,.sl 6 0 lZ1.length),(25,.b v)],[(2,.var (.agg [.lst .o 1 (nZ0.Nodes.map AV.z),.lst .o 4 (nZ0.Fibers.map (e_TFiber .o))])),(3,.var (.agg [.i rZ0.Start,.lst .o 1 (rZ0.Fibers.map AV.i)])),(6,.arr 1 (lZ1.map AV.i))]⟩)) (s:=oZ6) ?_ ?_
 · replace h:=hoZ6
   obtain ⟨rZ4,hrZ4,h⟩:=bind_s h
   refine ZF (ZA eZ2 jjZ3) ?_
   refine ZS (ZA eZ2 jjZ3) (w_b _ _ _ hrZ4) ?_
   refine ZG ?_
   obtain ⟨cZ5,h⟩ | ⟨cZ5,h⟩:=cond_s h
   · cases h
     exact ZL (ZA eZ2 (ZA jjZ3 cZ5)) (ZA hlZ1.symm jjZ3)
   · cases h
     exact ZL (ZA eZ2 (ZA jjZ3 cZ5)) (ZA hlZ1.symm jjZ3)
 · simp only [ZC,A115R1]
   obtain ⟨cZ7,h⟩ | ⟨cZ7,h⟩:=cond_s h
   · cases h
     exact ZL (ZA eZ2 (ZA jjZ3 cZ7)) (ZA @V115.eq_1 jjZ3)
   · obtain ⟨oZ27,hoZ27,h⟩:=bind_s h
     try refine ZF (ZA eZ2 (ZA jjZ3 cZ7)) ?_
     refine join_rule (o:=oZ27) (blk_rule sideR (loop_rule (w_q nZ0 rZ0) hoZ27 ?_)) (fun vZ28 hv=>?_) (fun xZ29 hv e τ hne hq=>?_)
     · exact ZK (ZA @S_q.eq_1 (ZA @SX_q.eq_1 jjZ3))
     · subst hv
       simp only [] at h
       simp only [ZC,SX_q,A115R4]
       cases h
       exact ZL (ZA eZ2 (ZA jjZ3 cZ7)) (ZA @V115.eq_1 jjZ3)
     · subst hv
       simp only [] at h
       obtain ⟨rfl,qZ30⟩:=hq
       cases h
       exact qZ30
theorem w_dw (nZ0:TNetwork) (rZ0:TRoute) {r:Bool} (h:M_dw nZ0 rZ0=some r):Ok Try.prog 100 [.agg [.lst .o 1 (nZ0.Nodes.map AV.z),.lst .o 4 (nZ0.Fibers.map (e_TFiber .o))],.agg [.i rZ0.Start,.lst .o 1 (rZ0.Fibers.map AV.i)]] ((fun r=>.b r) r):=by
 refine ok_of_body hmix m100 rfl ?_
 unfold M_dw at h
 simp only [ZC,A100,V100,body_eq]
 obtain ⟨rZ1,hrZ1,h⟩:=bind_s h
 refine ZF trivial ?_
 refine ZS trivial (w_bw _ hrZ1) ?_
 refine ZG ?_
 obtain ⟨cZ2,h⟩ | ⟨cZ2,h⟩:=cond_s h
 · cases h
   exact ZL cZ2 @V100.eq_1
 · obtain ⟨rZ3,hrZ3,h⟩:=bind_s h
   refine ZF cZ2 ?_
   refine ZU cZ2 (w_bz _ _ hrZ3) ?_
   refine ZG ?_
   cases h
   exact ZL cZ2 @V100.eq_1
theorem w_dx (nZ0:TNetwork) (rZ0:TRoute) {r:List Int} (h:M_dx nZ0 rZ0=some r):Ok Try.prog 116 [.agg [.lst .o 1 (nZ0.Nodes.map AV.z),.lst .o 4 (nZ0.Fibers.map (e_TFiber .o))],.agg [.i rZ0.Start,.lst .o 1 (rZ0.Fibers.map AV.i)]] ((fun r=>.lst .u 1 (r.map AV.i)) r):=by
 refine ok_of_body hmix m116 rfl ?_
 unfold M_dx at h
 simp only [ZC,A116,V116,body_eq]
 obtain ⟨rZ1,hrZ1,h⟩:=bind_s h
 refine ZF trivial ?_
 refine ZU trivial (w_bz _ _ hrZ1) ?_
 refine ZG ?_
 cases h
 exact ZL trivial @V116.eq_1
theorem w_dy (nZ0:TNetwork) (rZ0:TRoute) {r:Int} (h:M_dy nZ0 rZ0=some r):Ok Try.prog 101 [.agg [.lst .o 1 (nZ0.Nodes.map AV.z),.lst .o 4 (nZ0.Fibers.map (e_TFiber .o))],.agg [.i rZ0.Start,.lst .o 1 (rZ0.Fibers.map AV.i)]] ((fun r=>.i r) r):=by
 refine ok_of_body hmix m101 rfl ?_
 unfold M_dy at h
 simp only [ZC,A101,V101,body_eq]
 obtain ⟨rZ1,hrZ1,h⟩:=bind_s h
 refine ZF trivial ?_
 refine ZU trivial (w_dx _ _ hrZ1) ?_
 refine ZG ?_
 obtain ⟨kZ2,hkZ2,h⟩:=bind_s h
 obtain ⟨hkZ2a,hkZ2b⟩:=grd_s hkZ2
 obtain ⟨yZ3,hyZ3,h⟩:=bind_s h
 cases h
 exact ZL (ZA hkZ2a (ZA hkZ2b hyZ3)) @V101.eq_1
def S_ay (rZ0:TRoute) (rZ3:Int) (v:Int×List Int):St:=⟨[(3,.pt 3 0 0),(4,.pt 4 0 0),(6,.pt 6 0 0),(7,.i v.1)],[(3,.var (.agg [.i rZ0.Start,.lst .o 1 (rZ0.Fibers.map AV.i)])),(4,.var (.agg [.i 0,.lst .u 1 []])),(6,.var (.agg [.i rZ3,.sl 500000385 0 v.2.length])),(500000385,.arr 1 (v.2.map AV.i))]⟩
def SX_ay (rZ3:Int) (v:List Int):St:=⟨[(4,.pt 4 0 0),(6,.pt 6 0 0)],[(4,.var (.agg [.i 0,.lst .u 1 []])),(6,.var (.agg [.i rZ3,.sl 500000385 0 v.length])),(500000385,.arr 1 (v.map AV.i))]⟩
theorem w_ay (rZ0:TRoute) (rZ3:Int) (sZ4:Int×List Int) (o:(Int×List Int) ⊕ (List Int)) (h:M_ay rZ0 sZ4=some o):AWP (OkS Try.prog) A62L1 (qL [3,4,6,7] [3,4,6,500000385] (S_ay rZ0 rZ3) (qX 0 [4,6] [4,6,500000385] (SX_ay rZ3)) o) (S_ay rZ0 rZ3 sZ4):=by
 unfold M_ay at h
 simp only [ZC,S_ay,A62L1]
 obtain ⟨cZ5,h⟩ | ⟨cZ5,h⟩:=cond_s h
 · obtain ⟨yZ6,hyZ6,h⟩:=bind_s h
   obtain ⟨hyZ6a,hyZ6b⟩:=geti_s hyZ6
   obtain ⟨lZ7,hlZ7,h⟩:=bnd_s h
   have eZ8:Row.arr 1 [(.i yZ6:AV)]=Row.arr 1 (lZ7.map AV.i):=by rw [← hlZ7]; rfl
   have jjZ9:lZ7.length=1:=by rw [← hlZ7]; rfl
   obtain ⟨uZ10,huZ10,h⟩:=bind_s h
   have huZ10g:=grd_s huZ10
   obtain ⟨lZ11,hlZ11,h⟩:=bnd_s h
   have eZ12:sZ4.2.map AV.i++lZ7.map AV.i=lZ11.map AV.i:=by rw [← hlZ11,List.map_append]
   have eZ13:sZ4.2.length+1=lZ11.length:=by simp [← hlZ7,← hlZ11] <;> omega
   rw [eZ13] at huZ10g
   cases h
   exact ZL (ZA cZ5 (ZA hyZ6a (ZA hyZ6b (ZA eZ8 (ZA jjZ9 (ZA huZ10g (ZA eZ12 eZ13))))))) (ZA @S_ay.eq_1 (ZA @SX_ay.eq_1 (ZA hlZ7.symm (ZA hlZ11.symm jjZ9))))
 · cases h
   exact ZL cZ5 (ZA @S_ay.eq_1 @SX_ay.eq_1)
theorem w_dq (nZ0:TNetwork) (rZ0:TRoute) {r:TRoute×Bool} (h:M_dq nZ0 rZ0=some r):Ok Try.prog 62 [.agg [.lst .o 1 (nZ0.Nodes.map AV.z),.lst .o 4 (nZ0.Fibers.map (e_TFiber .o))],.agg [.i rZ0.Start,.lst .o 1 (rZ0.Fibers.map AV.i)]] ((fun r=>.tup [.agg [.i r.1.Start,.lst .u 1 (r.1.Fibers.map AV.i)],.b r.2]) r):=by
 refine ok_of_body hmix m62 rfl ?_
 unfold M_dq at h
 simp only [ZC,A62,V62,body_eq]
 obtain ⟨rZ1,hrZ1,h⟩:=bind_s h
 refine ZF trivial ?_
 refine ZS trivial (w_dw _ _ hrZ1) ?_
 refine ZG ?_
 obtain ⟨cZ2,h⟩ | ⟨cZ2,h⟩:=cond_s h
 · cases h
   exact ZL cZ2 @V62.eq_1
 · obtain ⟨rZ3,hrZ3,h⟩:=bind_s h
   refine ZF cZ2 ?_
   refine ZS cZ2 (w_dy _ _ hrZ3) ?_
   refine ZG ?_
   obtain ⟨oZ14,hoZ14,h⟩:=bind_s h
   try refine ZF cZ2 ?_
   refine join_rule0 (blk_rule0 (loop_rule (w_ay rZ0 rZ3) hoZ14 ?_)) ?_
   · exact ZK (ZA @S_ay.eq_1 @SX_ay.eq_1)
   · simp only [ZC,SX_ay,A62R2]
     cases h
     exact ZL cZ2 @V62.eq_1
def S_bc (nZ0:TNetwork) (rZ0:TRoute) (v:Int×Int):St:=⟨[(2,.pt 2 0 0),(3,.pt 3 0 0),(5,.i v.1),(6,.i v.2)],[(2,.var (.agg [.lst .o 1 (nZ0.Nodes.map AV.z),.lst .o 4 (nZ0.Fibers.map (e_TFiber .o))])),(3,.var (.agg [.i rZ0.Start,.lst .o 1 (rZ0.Fibers.map AV.i)]))]⟩
def SX_bc (v:Int):St:=⟨[(5,.i v)],[]⟩
theorem w_bc (nZ0:TNetwork) (rZ0:TRoute) (sZ1:Int×Int) (o:(Int×Int) ⊕ Int) (h:M_bc nZ0 rZ0 sZ1=some o):AWP (OkS Try.prog) A102L1 (qL [2,3,5,6] [2,3] (S_bc nZ0 rZ0) (qX 0 [5] [] (SX_bc)) o) (S_bc nZ0 rZ0 sZ1):=by
 unfold M_bc at h
 simp only [ZC,S_bc,A102L1]
 obtain ⟨cZ2,h⟩ | ⟨cZ2,h⟩:=cond_s h
 · obtain ⟨yZ3,hyZ3,h⟩:=bind_s h
   obtain ⟨hyZ3a,hyZ3b⟩:=geti_s hyZ3
   obtain ⟨yZ4,hyZ4,h⟩:=bind_s h
   obtain ⟨hyZ4a,hyZ4b⟩:=geti_s hyZ4
   cases h
   exact ZL (ZA cZ2 (ZA hyZ3a (ZA hyZ3b (ZA hyZ4a hyZ4b)))) (ZA @S_bc.eq_1 @SX_bc.eq_1)
 · cases h
   exact ZL cZ2 (ZA @S_bc.eq_1 @SX_bc.eq_1)
theorem w_ck (nZ0:TNetwork) (rZ0:TRoute) {r:Int} (h:M_ck nZ0 rZ0=some r):Ok Try.prog 102 [.agg [.lst .o 1 (nZ0.Nodes.map AV.z),.lst .o 4 (nZ0.Fibers.map (e_TFiber .o))],.agg [.i rZ0.Start,.lst .o 1 (rZ0.Fibers.map AV.i)]] ((fun r=>.i r) r):=by
 refine ok_of_body hmix m102 rfl ?_
 unfold M_ck at h
 simp only [ZC,A102,V102,body_eq]
 obtain ⟨oZ5,hoZ5,h⟩:=bind_s h
 try refine ZF trivial ?_
 refine join_rule0 (blk_rule0 (loop_rule (w_bc nZ0 rZ0) hoZ5 ?_)) ?_
 · exact ZK (ZA @S_bc.eq_1 @SX_bc.eq_1)
 · simp only [ZC,SX_bc,A102R2]
   cases h
   exact ZL trivial @V102.eq_1
theorem w_bh (xZ0:Int) {r:Int} (h:M_bh xZ0=some r):Ok Try.prog 103 [.i xZ0] ((fun r=>.i r) r):=by
 refine ok_of_body hmix m103 rfl ?_
 unfold M_bh at h
 simp only [ZC,A103,V103,body_eq]
 obtain ⟨cZ1,h⟩ | ⟨cZ1,h⟩:=cond_s h
 · cases h
   exact ZL cZ1 @V103.eq_1
 · obtain ⟨cZ2,h⟩ | ⟨cZ2,h⟩:=cond_s h
   · cases h
     exact ZL (ZA cZ1 cZ2) @V103.eq_1
   · cases h
     exact ZL (ZA cZ1 cZ2) @V103.eq_1
def S_ar (aZ0:TRoute) (bZ0:TRoute) (v:Int):St:=⟨[(4,.pt 4 0 0),(5,.pt 5 0 0),(9,.i v)],[(4,.var (.agg [.i aZ0.Start,.lst .o 1 (aZ0.Fibers.map AV.i)])),(5,.var (.agg [.i bZ0.Start,.lst .o 1 (bZ0.Fibers.map AV.i)]))]⟩
def SX_ar (aZ0:TRoute) (bZ0:TRoute) (v:Unit):St:=⟨[(4,.pt 4 0 0),(5,.pt 5 0 0)],[(4,.var (.agg [.i aZ0.Start,.lst .o 1 (aZ0.Fibers.map AV.i)])),(5,.var (.agg [.i bZ0.Start,.lst .o 1 (bZ0.Fibers.map AV.i)]))]⟩
theorem w_ar (aZ0:TRoute) (bZ0:TRoute) (sZ7:Int) (o:Int ⊕ (Unit ⊕ Int)) (h:M_ar aZ0 bZ0 sZ7=some o):AWP (OkS Try.prog) A63L1 (qL [4,5,9] [4,5] (S_ar aZ0 bZ0) (qS (qX 0 [4,5] [4,5] (SX_ar aZ0 bZ0)) (qR V63 (fun r=>.i r))) o) (S_ar aZ0 bZ0 sZ7):=by
 unfold M_ar at h
 simp only [ZC,S_ar,A63L1]
 obtain ⟨cZ8,h⟩ | ⟨cZ8,h⟩:=cond_s h
 · obtain ⟨yZ9,hyZ9,h⟩:=bind_s h
   obtain ⟨hyZ9a,hyZ9b⟩:=geti_s hyZ9
   obtain ⟨yZ10,hyZ10,h⟩:=bind_s h
   obtain ⟨hyZ10a,hyZ10b⟩:=geti_s hyZ10
   obtain ⟨cZ11,h⟩ | ⟨cZ11,h⟩:=cond_s h
   · obtain ⟨rZ12,hrZ12,h⟩:=bind_s h
     refine ZF (ZA cZ8 (ZA hyZ9a (ZA hyZ9b (ZA hyZ10a (ZA hyZ10b cZ11))))) ?_
     refine ZS (ZA cZ8 (ZA hyZ9a (ZA hyZ9b (ZA hyZ10a (ZA hyZ10b cZ11))))) (w_bh _ hrZ12) ?_
     refine ZG ?_
     cases h
     exact ZL (ZA cZ8 (ZA hyZ9a (ZA hyZ9b (ZA hyZ10a (ZA hyZ10b cZ11))))) @V63.eq_1
   · cases h
     exact ZL (ZA cZ8 (ZA hyZ9a (ZA hyZ9b (ZA hyZ10a (ZA hyZ10b cZ11))))) (ZA @S_ar.eq_1 @SX_ar.eq_1)
 · cases h
   exact ZL cZ8 (ZA @S_ar.eq_1 @SX_ar.eq_1)
theorem w_df (nZ0:TNetwork) (aZ0:TRoute) (bZ0:TRoute) {r:Int} (h:M_df nZ0 aZ0 bZ0=some r):Ok Try.prog 63 [.agg [.lst .o 1 (nZ0.Nodes.map AV.z),.lst .o 4 (nZ0.Fibers.map (e_TFiber .o))],.agg [.i aZ0.Start,.lst .o 1 (aZ0.Fibers.map AV.i)],.agg [.i bZ0.Start,.lst .o 1 (bZ0.Fibers.map AV.i)]] ((fun r=>.i r) r):=by
 refine ok_of_body hmix m63 rfl ?_
 unfold M_df at h
 simp only [ZC,A63,V63,body_eq]
 obtain ⟨rZ1,hrZ1,h⟩:=bind_s h
 refine ZF trivial ?_
 refine ZS trivial (w_ck _ _ hrZ1) ?_
 refine ZG ?_
 obtain ⟨rZ2,hrZ2,h⟩:=bind_s h
 refine ZF trivial ?_
 refine ZS trivial (w_ck _ _ hrZ2) ?_
 refine ZG ?_
 obtain ⟨cZ3,h⟩ | ⟨cZ3,h⟩:=cond_s h
 · obtain ⟨rZ4,hrZ4,h⟩:=bind_s h
   refine ZF cZ3 ?_
   refine ZS cZ3 (w_bh _ hrZ4) ?_
   refine ZG ?_
   cases h
   exact ZL cZ3 @V63.eq_1
 · obtain ⟨cZ5,h⟩ | ⟨cZ5,h⟩:=cond_s h
   · obtain ⟨rZ6,hrZ6,h⟩:=bind_s h
     refine ZF (ZA cZ3 cZ5) ?_
     refine ZS (ZA cZ3 cZ5) (w_bh _ hrZ6) ?_
     refine ZG ?_
     cases h
     exact ZL (ZA cZ3 cZ5) @V63.eq_1
   · obtain ⟨oZ13,hoZ13,h⟩:=bind_s h
     try refine ZF (ZA cZ3 cZ5) ?_
     refine join_rule (o:=oZ13) (blk_rule sideR (loop_rule (w_ar aZ0 bZ0) hoZ13 ?_)) (fun vZ14 hv=>?_) (fun xZ15 hv e τ hne hq=>?_)
     · exact ZK (ZA @S_ar.eq_1 @SX_ar.eq_1)
     · subst hv
       simp only [] at h
       simp only [ZC,SX_ar,A63R2]
       obtain ⟨rZ16,hrZ16,h⟩:=bind_s h
       refine ZF (ZA cZ3 cZ5) ?_
       refine ZS (ZA cZ3 cZ5) (w_bh _ hrZ16) ?_
       refine ZG ?_
       cases h
       exact ZL (ZA cZ3 cZ5) @V63.eq_1
     · subst hv
       simp only [] at h
       obtain ⟨rfl,qZ17⟩:=hq
       cases h
       exact qZ17
theorem w_dr (nZ0:TNetwork) (ringZ0:List Int) (fiberZ0:Int) {r:List TRoute×Bool} (h:M_dr nZ0 ringZ0 fiberZ0=some r):Ok Try.prog 33 [.agg [.lst .o 1 (nZ0.Nodes.map AV.z),.lst .o 4 (nZ0.Fibers.map (e_TFiber .o))],.lst .o 1 (ringZ0.map AV.i),.i fiberZ0] ((fun r=>.tup [.lst .u 2 (r.1.map (e_TRoute .u)),.b r.2]) r):=by
 refine ok_of_body hmix m33 rfl ?_
 unfold M_dr at h
 simp only [ZC,A33,V33,body_eq]
 obtain ⟨oZ4,hoZ4,h⟩:=bind_s h
 try refine ZF trivial ?_
 refine join_rule0 (sh:=(fun v=>⟨[(1,.lst .o 1 (ringZ0.map AV.i)),(2,.i fiberZ0),(3,.pt 3 0 0),(8,.sl 8 0 0),(29,.b v)],[(3,.var (.agg [.lst .o 1 (nZ0.Nodes.map AV.z),.lst .o 4 (nZ0.Fibers.map (e_TFiber .o))])),(8,.arr 2 [])]⟩)) (s:=oZ4) ?_ ?_
 · replace h:=hoZ4
   obtain ⟨rZ1,hrZ1,h⟩:=bind_s h
   refine ZF trivial ?_
   refine ZS trivial (w_dm _ _ hrZ1) ?_
   refine ZG ?_
   obtain ⟨cZ2,h⟩ | ⟨cZ2,h⟩:=cond_s h
   · cases h
     exact ZL cZ2 trivial
   · obtain ⟨rZ3,hrZ3,h⟩:=bind_s h
     refine ZF cZ2 ?_
     refine ZS cZ2 (w_b _ _ _ hrZ3) ?_
     refine ZG ?_
     cases h
     exact ZL cZ2 trivial
 · simp only [ZC,A33R1]
   obtain ⟨cZ5,h⟩ | ⟨cZ5,h⟩:=cond_s h
   · cases h
     exact ZL cZ5 @V33.eq_1
   · obtain ⟨rZ6,hrZ6,h⟩:=bind_s h
     refine ZF cZ5 ?_
     refine ZU cZ5 (w_dp _ _ hrZ6) ?_
     refine ZG ?_
     obtain ⟨oZ10,hoZ10,h⟩:=bind_s h
     try refine ZF cZ5 ?_
     refine join_rule0 (sh:=(fun v=>⟨[(1,.lst .o 1 (ringZ0.map AV.i)),(2,.i fiberZ0),(3,.pt 3 0 0),(8,.sl 8 0 0),(46,.b v)],[(3,.var (.agg [.lst .o 1 (nZ0.Nodes.map AV.z),.lst .o 4 (nZ0.Fibers.map (e_TFiber .o))])),(8,.arr 2 [])]⟩)) (s:=oZ10) ?_ ?_
     · replace h:=hoZ10
       obtain ⟨rZ7,hrZ7,h⟩:=bind_s h
       refine ZF cZ5 ?_
       refine ZS cZ5 (w_a _ _ hrZ7) ?_
       refine ZG ?_
       obtain ⟨cZ8,h⟩ | ⟨cZ8,h⟩:=cond_s h
       · obtain ⟨rZ9,hrZ9,h⟩:=bind_s h
         refine ZF (ZA cZ5 cZ8) ?_
         refine ZS (ZA cZ5 cZ8) (w_a _ _ hrZ9) ?_
         refine ZG ?_
         cases h
         exact ZL (ZA cZ5 cZ8) trivial
       · cases h
         exact ZL (ZA cZ5 cZ8) trivial
     · simp only [ZC,A33R2]
       obtain ⟨cZ11,h⟩ | ⟨cZ11,h⟩:=cond_s h
       · cases h
         exact ZL (ZA cZ5 cZ11) @V33.eq_1
       · obtain ⟨yZ12,hyZ12,h⟩:=bind_s h
         obtain ⟨hyZ12a,hyZ12b⟩:=geti_s hyZ12
         obtain ⟨rZ13,hrZ13,h⟩:=bind_s h
         refine ZF (ZA cZ5 (ZA cZ11 (ZA hyZ12a hyZ12b))) ?_
         refine ZU (ZA cZ5 (ZA cZ11 (ZA hyZ12a hyZ12b))) (w_by _ _ _ _ hrZ13) ?_
         refine ZG ?_
         obtain ⟨rZ14,hrZ14,h⟩:=bind_s h
         refine ZF (ZA cZ5 (ZA cZ11 (ZA hyZ12a hyZ12b))) ?_
         refine ZU (ZA cZ5 (ZA cZ11 (ZA hyZ12a hyZ12b))) (w_by _ _ _ _ hrZ14) ?_
         refine ZG ?_
         obtain ⟨rZ15,hrZ15,h⟩:=bind_s h
         refine ZF (ZA cZ5 (ZA cZ11 (ZA hyZ12a hyZ12b))) ?_
         refine ZU (ZA cZ5 (ZA cZ11 (ZA hyZ12a hyZ12b))) (w_dq _ _ hrZ15) ?_
         refine ZG ?_
         obtain ⟨oZ18,hoZ18,h⟩:=bind_s h
         try refine ZF (ZA cZ5 (ZA cZ11 (ZA hyZ12a hyZ12b))) ?_
         refine join_rule0 (sh:=(fun v=>⟨[(2,.i fiberZ0),(8,.sl 8 0 0),(12,.pt 12 0 0),(13,.pt 13 0 0)],[(8,.arr 2 []),(12,.var (.agg [.i v.1,.sl 500000769 0 v.2.2.1.length])),(13,.var (.agg [.i v.2.1,.sl 500000833 0 v.2.2.2.length])),(500000769,.arr 1 (v.2.2.1.map AV.i)),(500000833,.arr 1 (v.2.2.2.map AV.i))]⟩)) (s:=oZ18) ?_ ?_
         · replace h:=hoZ18
           obtain ⟨rZ16,hrZ16,h⟩:=bind_s h
           refine ZF (ZA cZ5 (ZA cZ11 (ZA hyZ12a hyZ12b))) ?_
           refine ZS (ZA cZ5 (ZA cZ11 (ZA hyZ12a hyZ12b))) (w_df _ _ _ hrZ16) ?_
           refine ZG ?_
           obtain ⟨cZ17,h⟩ | ⟨cZ17,h⟩:=cond_s h
           · cases h
             exact ZL (ZA cZ5 (ZA cZ11 (ZA hyZ12a (ZA hyZ12b cZ17)))) trivial
           · cases h
             exact ZL (ZA cZ5 (ZA cZ11 (ZA hyZ12a (ZA hyZ12b cZ17)))) trivial
         · simp only [ZC,A33R3]
           obtain ⟨oZ25,hoZ25,h⟩:=bind_s h
           try refine ZF (ZA cZ5 (ZA cZ11 (ZA hyZ12a hyZ12b))) ?_
           refine join_rule0 (sh:=(fun v=>⟨[(2,.i fiberZ0),(8,.sl 8 0 v.length),(13,.pt 13 0 0)],[(8,.arr 2 (v.map (e_TRoute .u))),(13,.var (.agg [.i oZ18.2.1,.sl 500000833 0 oZ18.2.2.2.length])),(500000833,.arr 1 (oZ18.2.2.2.map AV.i))]⟩)) (s:=oZ25) ?_ ?_
           · replace h:=hoZ25
             obtain ⟨rZ19,hrZ19,h⟩:=bind_s h
             refine ZF (ZA cZ5 (ZA cZ11 (ZA hyZ12a hyZ12b))) ?_
             refine ZS (ZA cZ5 (ZA cZ11 (ZA hyZ12a hyZ12b))) (w_a _ _ hrZ19) ?_
             refine ZG ?_
             obtain ⟨cZ20,h⟩ | ⟨cZ20,h⟩:=cond_s h
             · obtain ⟨lZ21,hlZ21,h⟩:=bnd_s h
               have eZ22:Row.arr 2 [(.agg [.i oZ18.1,.lst .u 1 (oZ18.2.2.1.map AV.i)]:AV)]=Row.arr 2 (lZ21.map (e_TRoute .u)):=by rw [← hlZ21]; rfl
               have jjZ23:lZ21.length=1:=by rw [← hlZ21]; rfl
               obtain ⟨uZ24,huZ24,h⟩:=bind_s h
               have huZ24g:=grd_s huZ24
               cases h
               exact ZL (ZA cZ5 (ZA cZ11 (ZA hyZ12a (ZA hyZ12b (ZA cZ20 (ZA eZ22 (ZA jjZ23 huZ24g))))))) (ZA hlZ21.symm jjZ23)
             · cases h
               exact ZL (ZA cZ5 (ZA cZ11 (ZA hyZ12a (ZA hyZ12b cZ20)))) trivial
           · simp only [ZC,A33R4]
             obtain ⟨rZ26,hrZ26,h⟩:=bind_s h
             refine ZF (ZA cZ5 (ZA cZ11 (ZA hyZ12a hyZ12b))) ?_
             refine ZS (ZA cZ5 (ZA cZ11 (ZA hyZ12a hyZ12b))) (w_a _ _ hrZ26) ?_
             refine ZG ?_
             obtain ⟨cZ27,h⟩ | ⟨cZ27,h⟩:=cond_s h
             · obtain ⟨lZ28,hlZ28,h⟩:=bnd_s h
               have eZ29:Row.arr 2 [(.agg [.i oZ18.2.1,.lst .u 1 (oZ18.2.2.2.map AV.i)]:AV)]=Row.arr 2 (lZ28.map (e_TRoute .u)):=by rw [← hlZ28]; rfl
               have jjZ30:lZ28.length=1:=by rw [← hlZ28]; rfl
               obtain ⟨uZ31,huZ31,h⟩:=bind_s h
               have huZ31g:=grd_s huZ31
               obtain ⟨lZ32,hlZ32,h⟩:=bnd_s h
               have eZ33:oZ25.map (e_TRoute .u)++lZ28.map (e_TRoute .u)=lZ32.map (e_TRoute .u):=by rw [← hlZ32,List.map_append]
               have eZ34:oZ25.length+1=lZ32.length:=by simp [← hlZ28,← hlZ32] <;> omega
               rw [eZ34] at huZ31g
               cases h
               exact ZL (ZA cZ5 (ZA cZ11 (ZA hyZ12a (ZA hyZ12b (ZA cZ27 (ZA eZ29 (ZA jjZ30 (ZA huZ31g (ZA eZ33 eZ34))))))))) (ZA @V33.eq_1 (ZA hlZ28.symm (ZA hlZ32.symm jjZ30)))
             · cases h
               exact ZL (ZA cZ5 (ZA cZ11 (ZA hyZ12a (ZA hyZ12b cZ27)))) @V33.eq_1
theorem w_ba (nZ0:Int) (lowZ0:Int) (highZ0:Int) {r:Bool} (h:M_ba nZ0 lowZ0 highZ0=some r):Ok Try.prog 57 [.i nZ0,.i lowZ0,.i highZ0] ((fun r=>.b r) r):=by
 refine ok_of_body hmix m57 rfl ?_
 unfold M_ba at h
 simp only [ZC,A57,V57,body_eq]
 obtain ⟨cZ1,h⟩ | ⟨cZ1,h⟩:=cond_s h
 · cases h
   exact ZL cZ1 @V57.eq_1
 · cases h
   exact ZL cZ1 @V57.eq_1
def S_h (sZ0:ByteArray) (v:Int):St:=⟨[(0,.z sZ0),(7,.i (sZ0.size:Int)),(8,.i v)],[]⟩
def SX_h (sZ0:ByteArray) (v:Unit):St:=⟨[(0,.z sZ0)],[]⟩
theorem w_h (sZ0:ByteArray) (sZ1:Int) (o:Int ⊕ (Unit ⊕ Bool)) (h:M_h sZ0 sZ1=some o):AWP (OkS Try.prog) A81L2 (qL [0,7,8] [] (S_h sZ0) (qS (qX 0 [0] [] (SX_h sZ0)) (qR V81 (fun r=>.b r))) o) (S_h sZ0 sZ1):=by
 unfold M_h at h
 simp only [ZC,S_h,A81L2]
 obtain ⟨cZ2,h⟩ | ⟨cZ2,h⟩:=cond_s h
 · obtain ⟨oZ7,hoZ7,h⟩:=bind_s h
   try refine ZF cZ2 ?_
   refine join_rule0 (sh:=(fun v=>⟨[(0,.z sZ0),(3,.i sZ1),(4,.b v.1),(5,.b v.2),(7,.i (sZ0.size:Int)),(8,.i sZ1)],[]⟩)) (s:=oZ7) ?_ ?_
   · replace h:=hoZ7
     obtain ⟨yZ3,hyZ3,h⟩:=bind_s h
     obtain ⟨hyZ3a,hyZ3b⟩:=getz_s hyZ3
     obtain ⟨cZ4,h⟩ | ⟨cZ4,h⟩:=cond_s h
     · obtain ⟨cZ5,h⟩ | ⟨cZ5,h⟩:=cond_s h
       · cases h
         exact ZL (ZA cZ2 (ZA hyZ3a (ZA hyZ3b (ZA cZ4 cZ5)))) trivial
       · cases h
         exact ZL (ZA cZ2 (ZA hyZ3a (ZA hyZ3b (ZA cZ4 cZ5)))) trivial
     · obtain ⟨cZ6,h⟩ | ⟨cZ6,h⟩:=cond_s h
       · cases h
         exact ZL (ZA cZ2 (ZA hyZ3a (ZA hyZ3b (ZA cZ4 cZ6)))) trivial
       · cases h
         exact ZL (ZA cZ2 (ZA hyZ3a (ZA hyZ3b (ZA cZ4 cZ6)))) trivial
   · simp only [ZC,A81R1]
     obtain ⟨cZ8,h⟩ | ⟨cZ8,h⟩:=cond_s h
     · obtain ⟨cZ9,h⟩ | ⟨cZ9,h⟩:=cond_s h
       · cases h
         exact ZL (ZA cZ2 (ZA cZ8 cZ9)) @V81.eq_1
       · obtain ⟨cZ10,h⟩ | ⟨cZ10,h⟩:=cond_s h
         · cases h
           exact ZL (ZA cZ2 (ZA cZ8 (ZA cZ9 cZ10))) @V81.eq_1
         · cases h
           exact ZL (ZA cZ2 (ZA cZ8 (ZA cZ9 cZ10))) (ZA @S_h.eq_1 @SX_h.eq_1)
     · cases h
       exact ZL (ZA cZ2 cZ8) (ZA @S_h.eq_1 @SX_h.eq_1)
 · cases h
   exact ZL cZ2 (ZA @S_h.eq_1 @SX_h.eq_1)
theorem w_cn (sZ0:ByteArray) {r:Bool} (h:M_cn sZ0=some r):Ok Try.prog 81 [.z sZ0] ((fun r=>.b r) r):=by
 refine ok_of_body hmix m81 rfl ?_
 unfold M_cn at h
 simp only [ZC,A81,V81,body_eq]
 obtain ⟨oZ11,hoZ11,h⟩:=bind_s h
 try refine ZF trivial ?_
 refine join_rule (o:=oZ11) (blk_rule sideR (loop_rule (w_h sZ0) hoZ11 ?_)) (fun vZ12 hv=>?_) (fun xZ13 hv e τ hne hq=>?_)
 · exact ZK (ZA @S_h.eq_1 @SX_h.eq_1)
 · subst hv
   simp only [] at h
   simp only [ZC,SX_h,A81R3]
   obtain ⟨rZ14,hrZ14,h⟩:=bind_s h
   refine ZF trivial ?_
   refine ZS trivial (w_ba _ _ _ hrZ14) ?_
   refine ZG ?_
   cases h
   exact ZL trivial @V81.eq_1
 · subst hv
   simp only [] at h
   obtain ⟨rfl,qZ15⟩:=hq
   cases h
   exact qZ15
def S_y (sZ0:List ByteArray) (vZ0:ByteArray) (v:Int):St:=⟨[(0,.lst .o 1 (sZ0.map AV.z)),(1,.z vZ0),(7,.i (sZ0.length:Int)),(8,.i v)],[]⟩
def SX_y (v:Unit):St:=⟨[],[]⟩
theorem w_y (sZ0:List ByteArray) (vZ0:ByteArray) (sZ1:Int) (o:Int ⊕ (Unit ⊕ Int)) (h:M_y sZ0 vZ0 sZ1=some o):AWP (OkS Try.prog) A109L1 (qL [0,1,7,8] [] (S_y sZ0 vZ0) (qS (qX 0 [] [] (SX_y)) (qR V109 (fun r=>.i r))) o) (S_y sZ0 vZ0 sZ1):=by
 unfold M_y at h
 simp only [ZC,S_y,A109L1]
 obtain ⟨cZ2,h⟩ | ⟨cZ2,h⟩:=cond_s h
 · obtain ⟨yZ3,hyZ3,h⟩:=bind_s h
   obtain ⟨hyZ3a,hyZ3b⟩:=geti_s hyZ3
   obtain ⟨cZ4,h⟩ | ⟨cZ4,h⟩:=cond_s h
   · cases h
     exact ZL (ZA cZ2 (ZA hyZ3a (ZA hyZ3b cZ4))) @V109.eq_1
   · cases h
     exact ZL (ZA cZ2 (ZA hyZ3a (ZA hyZ3b cZ4))) (ZA @S_y.eq_1 @SX_y.eq_1)
 · cases h
   exact ZL cZ2 (ZA @S_y.eq_1 @SX_y.eq_1)
theorem w_dv (sZ0:List ByteArray) (vZ0:ByteArray) {r:Int} (h:M_dv sZ0 vZ0=some r):Ok Try.prog 109 [.lst .o 1 (sZ0.map AV.z),.z vZ0] ((fun r=>.i r) r):=by
 refine ok_of_body hmix m109 rfl ?_
 unfold M_dv at h
 simp only [ZC,A109,V109,body_eq]
 obtain ⟨oZ5,hoZ5,h⟩:=bind_s h
 try refine ZF trivial ?_
 refine join_rule (o:=oZ5) (blk_rule sideR (loop_rule (w_y sZ0 vZ0) hoZ5 ?_)) (fun vZ6 hv=>?_) (fun xZ7 hv e τ hne hq=>?_)
 · exact ZK (ZA @S_y.eq_1 @SX_y.eq_1)
 · subst hv
   simp only [] at h
   simp only [ZC,SX_y,A109R2]
   cases h
   exact ZL trivial @V109.eq_1
 · subst hv
   simp only [] at h
   obtain ⟨rfl,qZ8⟩:=hq
   cases h
   exact qZ8
theorem w_cr (sZ0:List ByteArray) (vZ0:ByteArray) {r:Bool} (h:M_cr sZ0 vZ0=some r):Ok Try.prog 82 [.lst .o 1 (sZ0.map AV.z),.z vZ0] ((fun r=>.b r) r):=by
 refine ok_of_body hmix m82 rfl ?_
 unfold M_cr at h
 simp only [ZC,A82,V82,body_eq]
 obtain ⟨rZ1,hrZ1,h⟩:=bind_s h
 refine ZF trivial ?_
 refine ZS trivial (w_dv _ _ hrZ1) ?_
 refine ZG ?_
 cases h
 exact ZL trivial @V82.eq_1
theorem w_ce (xZ0:Int) {r:Bool} (h:M_ce xZ0=some r):Ok Try.prog 114 [.i xZ0] ((fun r=>.b r) r):=by
 refine ok_of_body hmix m114 rfl ?_
 unfold M_ce at h
 simp only [ZC,A114,V114,body_eq]
 cases h
 exact ZL trivial @V114.eq_1
theorem w_z (xZ0:Int) (yZ0:Int) {r:Int} (h:M_z xZ0 yZ0=some r):Ok Try.prog 98 [.i xZ0,.i yZ0] ((fun r=>.i r) r):=by
 refine ok_of_body hmix m98 rfl ?_
 unfold M_z at h
 simp only [ZC,A98,V98,body_eq]
 obtain ⟨rZ1,hrZ1,h⟩:=bind_s h
 refine ZF trivial ?_
 refine ZS trivial (w_ce _ hrZ1) ?_
 refine ZG ?_
 obtain ⟨rZ2,hrZ2,h⟩:=bind_s h
 refine ZF trivial ?_
 refine ZS trivial (w_ce _ hrZ2) ?_
 refine ZG ?_
 obtain ⟨cZ3,h⟩ | ⟨cZ3,h⟩:=cond_s h
 · obtain ⟨cZ4,h⟩ | ⟨cZ4,h⟩:=cond_s h
   · cases h
     exact ZL (ZA cZ3 cZ4) @V98.eq_1
   · cases h
     exact ZL (ZA cZ3 cZ4) @V98.eq_1
 · obtain ⟨cZ5,h⟩ | ⟨cZ5,h⟩:=cond_s h
   · cases h
     exact ZL (ZA cZ3 cZ5) @V98.eq_1
   · obtain ⟨cZ6,h⟩ | ⟨cZ6,h⟩:=cond_s h
     · cases h
       exact ZL (ZA cZ3 (ZA cZ5 cZ6)) @V98.eq_1
     · obtain ⟨cZ7,h⟩ | ⟨cZ7,h⟩:=cond_s h
       · cases h
         exact ZL (ZA cZ3 (ZA cZ5 (ZA cZ6 cZ7))) @V98.eq_1
       · cases h
         exact ZL (ZA cZ3 (ZA cZ5 (ZA cZ6 cZ7))) @V98.eq_1
def S_f (valsZ0:List Int) (v:Int):St:=⟨[(3,.i 0),(6,.lst .o 1 (valsZ0.map AV.i)),(7,.i (valsZ0.length:Int)),(8,.i v)],[]⟩
def SX_f (v:Unit):St:=⟨[(3,.i 0)],[]⟩
theorem w_f (valsZ0:List Int) (sZ1:Int) (o:Int ⊕ (Unit ⊕ Int)) (h:M_f valsZ0 sZ1=some o):AWP (OkS Try.prog) A97L1 (qL [3,6,7,8] [] (S_f valsZ0) (qS (qX 0 [3] [] (SX_f)) (qR V97 (fun r=>.i r))) o) (S_f valsZ0 sZ1):=by
 unfold M_f at h
 simp only [ZC,S_f,A97L1]
 obtain ⟨cZ2,h⟩ | ⟨cZ2,h⟩:=cond_s h
 · obtain ⟨yZ3,hyZ3,h⟩:=bind_s h
   obtain ⟨hyZ3a,hyZ3b⟩:=geti_s hyZ3
   obtain ⟨cZ4,h⟩ | ⟨cZ4,h⟩:=cond_s h
   · cases h
     exact ZL (ZA cZ2 (ZA hyZ3a (ZA hyZ3b cZ4))) @V97.eq_1
   · cases h
     exact ZL (ZA cZ2 (ZA hyZ3a (ZA hyZ3b cZ4))) (ZA @S_f.eq_1 @SX_f.eq_1)
 · cases h
   exact ZL cZ2 (ZA @S_f.eq_1 @SX_f.eq_1)
theorem w_bo (valsZ0:List Int) {r:Int} (h:M_bo valsZ0=some r):Ok Try.prog 97 [.lst .o 1 (valsZ0.map AV.i)] ((fun r=>.i r) r):=by
 refine ok_of_body hmix m97 rfl ?_
 unfold M_bo at h
 simp only [ZC,A97,V97,body_eq]
 obtain ⟨oZ5,hoZ5,h⟩:=bind_s h
 try refine ZF trivial ?_
 refine join_rule (o:=oZ5) (blk_rule sideR (loop_rule (w_f valsZ0) hoZ5 ?_)) (fun vZ6 hv=>?_) (fun xZ7 hv e τ hne hq=>?_)
 · exact ZK (ZA @S_f.eq_1 @SX_f.eq_1)
 · subst hv
   simp only [] at h
   simp only [ZC,SX_f,A97R2]
   cases h
   exact ZL trivial @V97.eq_1
 · subst hv
   simp only [] at h
   obtain ⟨rfl,qZ8⟩:=hq
   cases h
   exact qZ8
theorem w_cs (aZ0:TFiber) (bZ0:TFiber) {r:Int} (h:M_cs aZ0 bZ0=some r):Ok Try.prog 83 [.agg [.i aZ0.A,.i aZ0.B,.i aZ0.Length,.i aZ0.Risk],.agg [.i bZ0.A,.i bZ0.B,.i bZ0.Length,.i bZ0.Risk]] ((fun r=>.i r) r):=by
 refine ok_of_body hmix m83 rfl ?_
 unfold M_cs at h
 simp only [ZC,A83,V83,body_eq]
 obtain ⟨rZ1,hrZ1,h⟩:=bind_s h
 refine ZF trivial ?_
 refine ZS trivial (w_z _ _ hrZ1) ?_
 refine ZG ?_
 obtain ⟨rZ2,hrZ2,h⟩:=bind_s h
 refine ZF trivial ?_
 refine ZS trivial (w_z _ _ hrZ2) ?_
 refine ZG ?_
 obtain ⟨rZ3,hrZ3,h⟩:=bind_s h
 refine ZF trivial ?_
 refine ZS trivial (w_z _ _ hrZ3) ?_
 refine ZG ?_
 obtain ⟨rZ4,hrZ4,h⟩:=bind_s h
 refine ZF trivial ?_
 refine ZS trivial (w_z _ _ hrZ4) ?_
 refine ZG ?_
 obtain ⟨lZ5,hlZ5,h⟩:=bnd_s h
 have eZ6:Row.arr 1 [(.i rZ1:AV),(.i rZ2:AV),(.i rZ3:AV),(.i rZ4:AV)]=Row.arr 1 (lZ5.map AV.i):=by rw [← hlZ5]; rfl
 have jjZ7:lZ5.length=4:=by rw [← hlZ5]; rfl
 have nZ8:sub (lZ5.map AV.i) 0 4=lZ5.map AV.i:=sub_n _ (by simp [← hlZ5])
 obtain ⟨rZ9,hrZ9,h⟩:=bind_s h
 refine ZF (ZA eZ6 (ZA jjZ7 nZ8)) ?_
 refine ZS (ZA eZ6 (ZA jjZ7 nZ8)) (w_bo _ hrZ9) ?_
 refine ZG ?_
 cases h
 exact ZL (ZA eZ6 (ZA jjZ7 nZ8)) (ZA @V83.eq_1 (ZA hlZ5.symm jjZ7))
def S_aw (nZ0:TNetwork) (v:Int):St:=⟨[(1,.pt 1 0 0),(8,.lst .o 1 (nZ0.Nodes.map AV.z)),(9,.i (nZ0.Nodes.length:Int)),(10,.i v)],[(1,.var (.agg [.lst .o 1 (nZ0.Nodes.map AV.z),.lst .o 4 (nZ0.Fibers.map (e_TFiber .o))]))]⟩
def SX_aw (nZ0:TNetwork) (v:Unit):St:=⟨[(1,.pt 1 0 0)],[(1,.var (.agg [.lst .o 1 (nZ0.Nodes.map AV.z),.lst .o 4 (nZ0.Fibers.map (e_TFiber .o))]))]⟩
theorem w_aw (nZ0:TNetwork) (sZ1:Int) (o:Int ⊕ (Unit ⊕ Bool)) (h:M_aw nZ0 sZ1=some o):AWP (OkS Try.prog) A47L1 (qL [1,8,9,10] [1] (S_aw nZ0) (qS (qX 0 [1] [1] (SX_aw nZ0)) (qR V47 (fun r=>.b r))) o) (S_aw nZ0 sZ1):=by
 unfold M_aw at h
 simp only [ZC,S_aw,A47L1]
 obtain ⟨cZ2,h⟩ | ⟨cZ2,h⟩:=cond_s h
 · obtain ⟨yZ3,hyZ3,h⟩:=bind_s h
   obtain ⟨hyZ3a,hyZ3b⟩:=geti_s hyZ3
   obtain ⟨rZ4,hrZ4,h⟩:=bind_s h
   refine ZF (ZA cZ2 (ZA hyZ3a hyZ3b)) ?_
   refine ZS (ZA cZ2 (ZA hyZ3a hyZ3b)) (w_cn _ hrZ4) ?_
   refine ZG ?_
   obtain ⟨cZ5,h⟩ | ⟨cZ5,h⟩:=cond_s h
   · cases h
     exact ZL (ZA cZ2 (ZA hyZ3a (ZA hyZ3b cZ5))) @V47.eq_1
   · obtain ⟨lZ6,hlZ6,h⟩:=bind_s h
     obtain ⟨hlZ6a,hlZ6b,hlZ6c,hlZ6d,hlZ6e⟩:=slT_s AV.z hlZ6
     obtain ⟨rZ7,hrZ7,h⟩:=bind_s h
     refine ZF (ZA cZ2 (ZA hyZ3a (ZA hyZ3b (ZA cZ5 (ZA hlZ6a (ZA hlZ6b (ZA hlZ6c (ZA hlZ6d hlZ6e)))))))) ?_
     refine ZS (ZA cZ2 (ZA hyZ3a (ZA hyZ3b (ZA cZ5 (ZA hlZ6a (ZA hlZ6b (ZA hlZ6c (ZA hlZ6d hlZ6e)))))))) (w_cr _ _ hrZ7) ?_
     refine ZG ?_
     obtain ⟨cZ8,h⟩ | ⟨cZ8,h⟩:=cond_s h
     · cases h
       exact ZL (ZA cZ2 (ZA hyZ3a (ZA hyZ3b (ZA cZ5 (ZA hlZ6a (ZA hlZ6b (ZA hlZ6c (ZA hlZ6d (ZA hlZ6e cZ8))))))))) @V47.eq_1
     · cases h
       exact ZL (ZA cZ2 (ZA hyZ3a (ZA hyZ3b (ZA cZ5 (ZA hlZ6a (ZA hlZ6b (ZA hlZ6c (ZA hlZ6d (ZA hlZ6e cZ8))))))))) (ZA @S_aw.eq_1 @SX_aw.eq_1)
 · cases h
   exact ZL cZ2 (ZA @S_aw.eq_1 @SX_aw.eq_1)
def S_j (nZ0:TNetwork) (v:Int):St:=⟨[(1,.pt 1 0 0),(28,.lst .o 4 (nZ0.Fibers.map (e_TFiber .o))),(29,.i (nZ0.Fibers.length:Int)),(30,.i v)],[(1,.var (.agg [.lst .o 1 (nZ0.Nodes.map AV.z),.lst .o 4 (nZ0.Fibers.map (e_TFiber .o))]))]⟩
def SX_j (nZ0:TNetwork) (v:Unit):St:=⟨[(1,.pt 1 0 0)],[(1,.var (.agg [.lst .o 1 (nZ0.Nodes.map AV.z),.lst .o 4 (nZ0.Fibers.map (e_TFiber .o))]))]⟩
theorem w_j (nZ0:TNetwork) (sZ12:Int) (o:Int ⊕ (Unit ⊕ Bool)) (h:M_j nZ0 sZ12=some o):AWP (OkS Try.prog) A47L3 (qL [1,28,29,30] [1] (S_j nZ0) (qS (qX 2 [1] [1] (SX_j nZ0)) (qR V47 (fun r=>.b r))) o) (S_j nZ0 sZ12):=by
 unfold M_j at h
 simp only [ZC,S_j,A47L3]
 obtain ⟨cZ13,h⟩ | ⟨cZ13,h⟩:=cond_s h
 · obtain ⟨yZ14,hyZ14,h⟩:=bind_s h
   obtain ⟨hyZ14a,hyZ14b⟩:=geti_s hyZ14
   obtain ⟨cZ15,h⟩ | ⟨cZ15,h⟩:=cond_s h
   · cases h
     exact ZL (ZA cZ13 (ZA hyZ14a (ZA hyZ14b cZ15))) @V47.eq_1
   · obtain ⟨cZ16,h⟩ | ⟨cZ16,h⟩:=cond_s h
     · cases h
       exact ZL (ZA cZ13 (ZA hyZ14a (ZA hyZ14b (ZA cZ15 cZ16)))) @V47.eq_1
     · obtain ⟨cZ17,h⟩ | ⟨cZ17,h⟩:=cond_s h
       · cases h
         exact ZL (ZA cZ13 (ZA hyZ14a (ZA hyZ14b (ZA cZ15 (ZA cZ16 cZ17))))) @V47.eq_1
       · obtain ⟨rZ18,hrZ18,h⟩:=bind_s h
         refine ZF (ZA cZ13 (ZA hyZ14a (ZA hyZ14b (ZA cZ15 (ZA cZ16 cZ17))))) ?_
         refine ZS (ZA cZ13 (ZA hyZ14a (ZA hyZ14b (ZA cZ15 (ZA cZ16 cZ17))))) (w_ba _ _ _ hrZ18) ?_
         refine ZG ?_
         obtain ⟨cZ19,h⟩ | ⟨cZ19,h⟩:=cond_s h
         · cases h
           exact ZL (ZA cZ13 (ZA hyZ14a (ZA hyZ14b (ZA cZ15 (ZA cZ16 (ZA cZ17 cZ19)))))) @V47.eq_1
         · obtain ⟨rZ20,hrZ20,h⟩:=bind_s h
           refine ZF (ZA cZ13 (ZA hyZ14a (ZA hyZ14b (ZA cZ15 (ZA cZ16 (ZA cZ17 cZ19)))))) ?_
           refine ZS (ZA cZ13 (ZA hyZ14a (ZA hyZ14b (ZA cZ15 (ZA cZ16 (ZA cZ17 cZ19)))))) (w_ba _ _ _ hrZ20) ?_
           refine ZG ?_
           obtain ⟨cZ21,h⟩ | ⟨cZ21,h⟩:=cond_s h
           · cases h
             exact ZL (ZA cZ13 (ZA hyZ14a (ZA hyZ14b (ZA cZ15 (ZA cZ16 (ZA cZ17 (ZA cZ19 cZ21))))))) @V47.eq_1
           · obtain ⟨cZ22,h⟩ | ⟨cZ22,h⟩:=cond_s h
             · obtain ⟨yZ23,hyZ23,h⟩:=bind_s h
               obtain ⟨hyZ23a,hyZ23b⟩:=geti_s hyZ23
               obtain ⟨rZ24,hrZ24,h⟩:=bind_s h
               refine ZF (ZA cZ13 (ZA hyZ14a (ZA hyZ14b (ZA cZ15 (ZA cZ16 (ZA cZ17 (ZA cZ19 (ZA cZ21 (ZA cZ22 (ZA hyZ23a hyZ23b)))))))))) ?_
               refine ZS (ZA cZ13 (ZA hyZ14a (ZA hyZ14b (ZA cZ15 (ZA cZ16 (ZA cZ17 (ZA cZ19 (ZA cZ21 (ZA cZ22 (ZA hyZ23a hyZ23b)))))))))) (w_cs _ _ hrZ24) ?_
               refine ZG ?_
               obtain ⟨cZ25,h⟩ | ⟨cZ25,h⟩:=cond_s h
               · cases h
                 exact ZL (ZA cZ13 (ZA hyZ14a (ZA hyZ14b (ZA cZ15 (ZA cZ16 (ZA cZ17 (ZA cZ19 (ZA cZ21 (ZA cZ22 (ZA hyZ23a (ZA hyZ23b cZ25))))))))))) @V47.eq_1
               · cases h
                 exact ZL (ZA cZ13 (ZA hyZ14a (ZA hyZ14b (ZA cZ15 (ZA cZ16 (ZA cZ17 (ZA cZ19 (ZA cZ21 (ZA cZ22 (ZA hyZ23a (ZA hyZ23b cZ25))))))))))) (ZA @S_j.eq_1 @SX_j.eq_1)
             · cases h
               exact ZL (ZA cZ13 (ZA hyZ14a (ZA hyZ14b (ZA cZ15 (ZA cZ16 (ZA cZ17 (ZA cZ19 (ZA cZ21 cZ22)))))))) (ZA @S_j.eq_1 @SX_j.eq_1)
 · cases h
   exact ZL cZ13 (ZA @S_j.eq_1 @SX_j.eq_1)
theorem w_ds (nZ0:TNetwork) {r:Bool} (h:M_ds nZ0=some r):Ok Try.prog 47 [.agg [.lst .o 1 (nZ0.Nodes.map AV.z),.lst .o 4 (nZ0.Fibers.map (e_TFiber .o))]] ((fun r=>.b r) r):=by
 refine ok_of_body hmix m47 rfl ?_
 unfold M_ds at h
 simp only [ZC,A47,V47,body_eq]
 obtain ⟨oZ9,hoZ9,h⟩:=bind_s h
 try refine ZF trivial ?_
 refine join_rule (o:=oZ9) (blk_rule sideR (loop_rule (w_aw nZ0) hoZ9 ?_)) (fun vZ10 hv=>?_) (fun xZ11 hv e τ hne hq=>?_)
 · exact ZK (ZA @S_aw.eq_1 @SX_aw.eq_1)
 · subst hv
   simp only [] at h
   simp only [ZC,SX_aw,A47R2]
   obtain ⟨oZ26,hoZ26,h⟩:=bind_s h
   try refine ZF trivial ?_
   refine join_rule (o:=oZ26) (blk_rule sideR (loop_rule (w_j nZ0) hoZ26 ?_)) (fun vZ27 hv=>?_) (fun xZ28 hv e τ hne hq=>?_)
   · exact ZK (ZA @S_j.eq_1 @SX_j.eq_1)
   · subst hv
     simp only [] at h
     simp only [ZC,SX_j,A47R4]
     obtain ⟨rZ29,hrZ29,h⟩:=bind_s h
     refine ZF trivial ?_
     refine ZS trivial (w_ba _ _ _ hrZ29) ?_
     refine ZG ?_
     obtain ⟨cZ30,h⟩ | ⟨cZ30,h⟩:=cond_s h
     · cases h
       exact ZL cZ30 @V47.eq_1
     · cases h
       exact ZL cZ30 @V47.eq_1
   · subst hv
     simp only [] at h
     obtain ⟨rfl,qZ31⟩:=hq
     cases h
     exact qZ31
 · subst hv
   simp only [] at h
   obtain ⟨rfl,qZ32⟩:=hq
   cases h
   exact qZ32
def S_g (sZ0:List Int) (vZ0:Int) (v:Int):St:=⟨[(0,.lst .o 1 (sZ0.map AV.i)),(1,.i vZ0),(7,.i (sZ0.length:Int)),(8,.i v)],[]⟩
def SX_g (v:Unit):St:=⟨[],[]⟩
theorem w_g (sZ0:List Int) (vZ0:Int) (sZ1:Int) (o:Int ⊕ (Unit ⊕ Int)) (h:M_g sZ0 vZ0 sZ1=some o):AWP (OkS Try.prog) A64L1 (qL [0,1,7,8] [] (S_g sZ0 vZ0) (qS (qX 0 [] [] (SX_g)) (qR V64 (fun r=>.i r))) o) (S_g sZ0 vZ0 sZ1):=by
 unfold M_g at h
 simp only [ZC,S_g,A64L1]
 obtain ⟨cZ2,h⟩ | ⟨cZ2,h⟩:=cond_s h
 · obtain ⟨yZ3,hyZ3,h⟩:=bind_s h
   obtain ⟨hyZ3a,hyZ3b⟩:=geti_s hyZ3
   obtain ⟨cZ4,h⟩ | ⟨cZ4,h⟩:=cond_s h
   · cases h
     exact ZL (ZA cZ2 (ZA hyZ3a (ZA hyZ3b cZ4))) @V64.eq_1
   · cases h
     exact ZL (ZA cZ2 (ZA hyZ3a (ZA hyZ3b cZ4))) (ZA @S_g.eq_1 @SX_g.eq_1)
 · cases h
   exact ZL cZ2 (ZA @S_g.eq_1 @SX_g.eq_1)
theorem w_bi (sZ0:List Int) (vZ0:Int) {r:Int} (h:M_bi sZ0 vZ0=some r):Ok Try.prog 64 [.lst .o 1 (sZ0.map AV.i),.i vZ0] ((fun r=>.i r) r):=by
 refine ok_of_body hmix m64 rfl ?_
 unfold M_bi at h
 simp only [ZC,A64,V64,body_eq]
 obtain ⟨oZ5,hoZ5,h⟩:=bind_s h
 try refine ZF trivial ?_
 refine join_rule (o:=oZ5) (blk_rule sideR (loop_rule (w_g sZ0 vZ0) hoZ5 ?_)) (fun vZ6 hv=>?_) (fun xZ7 hv e τ hne hq=>?_)
 · exact ZK (ZA @S_g.eq_1 @SX_g.eq_1)
 · subst hv
   simp only [] at h
   simp only [ZC,SX_g,A64R2]
   cases h
   exact ZL trivial @V64.eq_1
 · subst hv
   simp only [] at h
   obtain ⟨rfl,qZ8⟩:=hq
   cases h
   exact qZ8
theorem w_bn (sZ0:List Int) (vZ0:Int) {r:Bool} (h:M_bn sZ0 vZ0=some r):Ok Try.prog 67 [.lst .o 1 (sZ0.map AV.i),.i vZ0] ((fun r=>.b r) r):=by
 refine ok_of_body hmix m67 rfl ?_
 unfold M_bn at h
 simp only [ZC,A67,V67,body_eq]
 obtain ⟨rZ1,hrZ1,h⟩:=bind_s h
 refine ZF trivial ?_
 refine ZS trivial (w_bi _ _ hrZ1) ?_
 refine ZG ?_
 cases h
 exact ZL trivial @V67.eq_1
theorem w_dt (fZ0:TFiber) (nodeZ0:Int) {r:Int} (h:M_dt fZ0 nodeZ0=some r):Ok Try.prog 94 [.agg [.i fZ0.A,.i fZ0.B,.i fZ0.Length,.i fZ0.Risk],.i nodeZ0] ((fun r=>.i r) r):=by
 refine ok_of_body hmix m94 rfl ?_
 unfold M_dt at h
 simp only [ZC,A94,V94,body_eq]
 obtain ⟨cZ1,h⟩ | ⟨cZ1,h⟩:=cond_s h
 · cases h
   exact ZL cZ1 @V94.eq_1
 · obtain ⟨cZ2,h⟩ | ⟨cZ2,h⟩:=cond_s h
   · cases h
     exact ZL (ZA cZ1 cZ2) @V94.eq_1
   · cases h
     exact ZL (ZA cZ1 cZ2) @V94.eq_1
def S_k (nZ0:TNetwork) (ringZ0:List Int) (v:Int×Int×List Int):St:=⟨[(2,.lst .o 1 (ringZ0.map AV.i)),(3,.pt 3 0 0),(9,.sl 9 0 v.2.2.length),(10,.i v.1),(15,.lst .o 1 (ringZ0.map AV.i)),(16,.i (ringZ0.length:Int)),(17,.i v.2.1)],[(3,.var (.agg [.lst .o 1 (nZ0.Nodes.map AV.z),.lst .o 4 (nZ0.Fibers.map (e_TFiber .o))])),(9,.arr 1 (v.2.2.map AV.i))]⟩
def SX_k (v:Int×List Int):St:=⟨[(9,.sl 9 0 v.2.length),(10,.i v.1)],[(9,.arr 1 (v.2.map AV.i))]⟩
theorem w_k (nZ0:TNetwork) (ringZ0:List Int) (sZ1:Int×Int×List Int) (o:(Int×Int×List Int) ⊕ ((Int×List Int) ⊕ (List Int×Int×Bool))) (h:M_k nZ0 ringZ0 sZ1=some o):AWP (OkS Try.prog) A84L2 (qL [2,3,9,10,15,16,17] [3,9] (S_k nZ0 ringZ0) (qS (qX 0 [9,10] [9] (SX_k)) (qR V84 (fun r=>.tup [.lst .u 1 (r.1.map AV.i),.i r.2.1,.b r.2.2]))) o) (S_k nZ0 ringZ0 sZ1):=by
 unfold M_k at h
 simp only [ZC,S_k,A84L2]
 obtain ⟨cZ2,h⟩ | ⟨cZ2,h⟩:=cond_s h
 · obtain ⟨yZ3,hyZ3,h⟩:=bind_s h
   obtain ⟨hyZ3a,hyZ3b⟩:=geti_s hyZ3
   obtain ⟨oZ8,hoZ8,h⟩:=bind_s h
   try refine ZF (ZA cZ2 (ZA hyZ3a hyZ3b)) ?_
   refine join_rule0 (sh:=(fun v=>⟨[(2,.lst .o 1 (ringZ0.map AV.i)),(3,.pt 3 0 0),(9,.sl 9 0 sZ1.2.2.length),(10,.i sZ1.1),(12,.i yZ3),(15,.lst .o 1 (ringZ0.map AV.i)),(16,.i (ringZ0.length:Int)),(17,.i sZ1.2.1),(35,.b v)],[(3,.var (.agg [.lst .o 1 (nZ0.Nodes.map AV.z),.lst .o 4 (nZ0.Fibers.map (e_TFiber .o))])),(9,.arr 1 (sZ1.2.2.map AV.i))]⟩)) (s:=oZ8) ?_ ?_
   · replace h:=hoZ8
     obtain ⟨rZ4,hrZ4,h⟩:=bind_s h
     refine ZF (ZA cZ2 (ZA hyZ3a hyZ3b)) ?_
     refine ZS (ZA cZ2 (ZA hyZ3a hyZ3b)) (w_ba _ _ _ hrZ4) ?_
     refine ZG ?_
     obtain ⟨cZ5,h⟩ | ⟨cZ5,h⟩:=cond_s h
     · cases h
       exact ZL (ZA cZ2 (ZA hyZ3a (ZA hyZ3b cZ5))) trivial
     · obtain ⟨lZ6,hlZ6,h⟩:=bind_s h
       obtain ⟨hlZ6a,hlZ6b,hlZ6c,hlZ6d,hlZ6e⟩:=slT_s AV.i hlZ6
       obtain ⟨rZ7,hrZ7,h⟩:=bind_s h
       refine ZF (ZA cZ2 (ZA hyZ3a (ZA hyZ3b (ZA cZ5 (ZA hlZ6a (ZA hlZ6b (ZA hlZ6c (ZA hlZ6d hlZ6e)))))))) ?_
       refine ZS (ZA cZ2 (ZA hyZ3a (ZA hyZ3b (ZA cZ5 (ZA hlZ6a (ZA hlZ6b (ZA hlZ6c (ZA hlZ6d hlZ6e)))))))) (w_bn _ _ hrZ7) ?_
       refine ZG ?_
       cases h
       exact ZL (ZA cZ2 (ZA hyZ3a (ZA hyZ3b (ZA cZ5 (ZA hlZ6a (ZA hlZ6b (ZA hlZ6c (ZA hlZ6d hlZ6e)))))))) trivial
   · simp only [ZC,A84R1]
     obtain ⟨cZ9,h⟩ | ⟨cZ9,h⟩:=cond_s h
     · cases h
       exact ZL (ZA cZ2 (ZA hyZ3a (ZA hyZ3b cZ9))) @V84.eq_1
     · obtain ⟨lZ10,hlZ10,h⟩:=bnd_s h
       have eZ11:Row.arr 1 [(.i sZ1.1:AV)]=Row.arr 1 (lZ10.map AV.i):=by rw [← hlZ10]; rfl
       have jjZ12:lZ10.length=1:=by rw [← hlZ10]; rfl
       obtain ⟨uZ13,huZ13,h⟩:=bind_s h
       have huZ13g:=grd_s huZ13
       obtain ⟨lZ14,hlZ14,h⟩:=bnd_s h
       have eZ15:sZ1.2.2.map AV.i++lZ10.map AV.i=lZ14.map AV.i:=by rw [← hlZ14,List.map_append]
       have eZ16:sZ1.2.2.length+1=lZ14.length:=by simp [← hlZ10,← hlZ14] <;> omega
       rw [eZ16] at huZ13g
       obtain ⟨yZ17,hyZ17,h⟩:=bind_s h
       obtain ⟨hyZ17a,hyZ17b⟩:=geti_s hyZ17
       obtain ⟨rZ18,hrZ18,h⟩:=bind_s h
       refine ZF (ZA cZ2 (ZA hyZ3a (ZA hyZ3b (ZA cZ9 (ZA eZ11 (ZA jjZ12 (ZA huZ13g (ZA eZ15 (ZA eZ16 (ZA hyZ17a hyZ17b)))))))))) ?_
       refine ZS (ZA cZ2 (ZA hyZ3a (ZA hyZ3b (ZA cZ9 (ZA eZ11 (ZA jjZ12 (ZA huZ13g (ZA eZ15 (ZA eZ16 (ZA hyZ17a hyZ17b)))))))))) (w_dt _ _ hrZ18) ?_
       refine ZG ?_
       obtain ⟨cZ19,h⟩ | ⟨cZ19,h⟩:=cond_s h
       · cases h
         exact ZL (ZA cZ2 (ZA hyZ3a (ZA hyZ3b (ZA cZ9 (ZA eZ11 (ZA jjZ12 (ZA huZ13g (ZA eZ15 (ZA eZ16 (ZA hyZ17a (ZA hyZ17b cZ19))))))))))) (ZA @V84.eq_1 (ZA hlZ10.symm (ZA hlZ14.symm jjZ12)))
       · cases h
         exact ZL (ZA cZ2 (ZA hyZ3a (ZA hyZ3b (ZA cZ9 (ZA eZ11 (ZA jjZ12 (ZA huZ13g (ZA eZ15 (ZA eZ16 (ZA hyZ17a (ZA hyZ17b cZ19))))))))))) (ZA @S_k.eq_1 (ZA @SX_k.eq_1 (ZA hlZ10.symm (ZA hlZ14.symm jjZ12))))
 · cases h
   exact ZL cZ2 (ZA @S_k.eq_1 @SX_k.eq_1)
theorem w_dg (nZ0:TNetwork) (startZ0:Int) (ringZ0:List Int) {r:List Int×Int×Bool} (h:M_dg nZ0 startZ0 ringZ0=some r):Ok Try.prog 84 [.agg [.lst .o 1 (nZ0.Nodes.map AV.z),.lst .o 4 (nZ0.Fibers.map (e_TFiber .o))],.i startZ0,.lst .o 1 (ringZ0.map AV.i)] ((fun r=>.tup [.lst .u 1 (r.1.map AV.i),.i r.2.1,.b r.2.2]) r):=by
 refine ok_of_body hmix m84 rfl ?_
 unfold M_dg at h
 simp only [ZC,A84,V84,body_eq]
 obtain ⟨oZ20,hoZ20,h⟩:=bind_s h
 try refine ZF trivial ?_
 refine join_rule (o:=oZ20) (blk_rule sideR (loop_rule (w_k nZ0 ringZ0) hoZ20 ?_)) (fun vZ21 hv=>?_) (fun xZ22 hv e τ hne hq=>?_)
 · exact ZK (ZA @S_k.eq_1 @SX_k.eq_1)
 · subst hv
   simp only [] at h
   simp only [ZC,SX_k,A84R3]
   cases h
   exact ZL trivial @V84.eq_1
 · subst hv
   simp only [] at h
   obtain ⟨rfl,qZ23⟩:=hq
   cases h
   exact qZ23
def S_as (xZ0:List Int) (v:Int×Int):St:=⟨[(0,.lst .o 1 (xZ0.map AV.i)),(3,.i v.1),(4,.i v.2)],[]⟩
def SX_as (v:Int):St:=⟨[(3,.i v)],[]⟩
theorem w_as (xZ0:List Int) (sZ3:Int×Int) (o:(Int×Int) ⊕ Int) (h:M_as xZ0 sZ3=some o):AWP (OkS Try.prog) A85L1 (qL [0,3,4] [] (S_as xZ0) (qX 0 [3] [] (SX_as)) o) (S_as xZ0 sZ3):=by
 unfold M_as at h
 simp only [ZC,S_as,A85L1]
 obtain ⟨cZ4,h⟩ | ⟨cZ4,h⟩:=cond_s h
 · obtain ⟨yZ5,hyZ5,h⟩:=bind_s h
   obtain ⟨hyZ5a,hyZ5b⟩:=geti_s hyZ5
   cases h
   exact ZL (ZA cZ4 (ZA hyZ5a hyZ5b)) (ZA @S_as.eq_1 @SX_as.eq_1)
 · cases h
   exact ZL cZ4 (ZA @S_as.eq_1 @SX_as.eq_1)
theorem w_dh (xZ0:List Int) {r:Int} (h:M_dh xZ0=some r):Ok Try.prog 85 [.lst .o 1 (xZ0.map AV.i)] ((fun r=>.i r) r):=by
 refine ok_of_body hmix m85 rfl ?_
 unfold M_dh at h
 simp only [ZC,A85,V85,body_eq]
 obtain ⟨cZ1,h⟩ | ⟨cZ1,h⟩:=cond_s h
 · cases h
 · obtain ⟨yZ2,hyZ2,h⟩:=bind_s h
   obtain ⟨hyZ2a,hyZ2b⟩:=geti_s hyZ2
   obtain ⟨oZ6,hoZ6,h⟩:=bind_s h
   try refine ZF (ZA cZ1 (ZA hyZ2a hyZ2b)) ?_
   refine join_rule0 (blk_rule0 (loop_rule (w_as xZ0) hoZ6 ?_)) ?_
   · exact ZK (ZA @S_as.eq_1 @SX_as.eq_1)
   · simp only [ZC,SX_as,A85R2]
     cases h
     exact ZL (ZA cZ1 (ZA hyZ2a hyZ2b)) @V85.eq_1
theorem w_di (sZ0:List Int) {r:List Int} (h:M_di sZ0=some r):Ok Try.prog 86 [.lst .o 1 (sZ0.map AV.i)] ((fun r=>.lst .u 1 (r.map AV.i)) r):=by
 refine ok_of_body hmix m86 rfl ?_
 unfold M_di at h
 simp only [ZC,A86,V86,body_eq]
 obtain ⟨cZ1,h⟩ | ⟨cZ1,h⟩:=cond_s h
 · refine ZF cZ1 ?_
   refine And.intro ?_ ?_
   · replace h:=amb_l h
     cases h
     exact ZL cZ1 @V86.eq_1
   · replace h:=amb_r h
     obtain ⟨uZ2,huZ2,h⟩:=bind_s h
     have huZ2g:=grd_s huZ2
     cases h
     exact ZL (ZA cZ1 huZ2g) @V86.eq_1
 · obtain ⟨uZ3,huZ3,h⟩:=bind_s h
   have huZ3g:=grd_s huZ3
   cases h
   exact ZL (ZA cZ1 huZ3g) @V86.eq_1
def S_m (v:Int×Int×List Int):St:=⟨[(0,.sl 1000000000 0 v.2.2.length),(2,.i v.1),(3,.i v.2.1)],[(1000000000,.arr 1 (v.2.2.map AV.i))]⟩
def SX_m (v:List Int):St:=⟨[],[(1000000000,.arr 1 (v.map AV.i))]⟩
theorem w_m (sZ1:Int×Int×List Int) (o:(Int×Int×List Int) ⊕ (List Int)) (h:M_m sZ1=some o):AWP (OkS Try.prog) A87M1L1 (qL [0,2,3] [1000000000] (S_m) (qX 0 [] [1000000000] (SX_m)) o) (S_m sZ1):=by
 unfold M_m at h
 simp only [ZC,S_m,A87M1L1]
 obtain ⟨cZ2,h⟩ | ⟨cZ2,h⟩:=cond_s h
 · obtain ⟨kZ3,hkZ3,h⟩:=bind_s h
   obtain ⟨hkZ3a,hkZ3b⟩:=grd_s hkZ3
   obtain ⟨yZ4,hyZ4,h⟩:=bind_s h
   obtain ⟨kZ5,hkZ5,h⟩:=bind_s h
   obtain ⟨hkZ5a,hkZ5b⟩:=grd_s hkZ5
   obtain ⟨yZ6,hyZ6,h⟩:=bind_s h
   obtain ⟨lZ7,hlZ7,h⟩:=bnd_s h
   have eZ8:(sZ1.2.2.map AV.i).set (Int.toNat sZ1.1) (.i yZ4)=lZ7.map AV.i:=by rw [← hlZ7,List.map_set]
   obtain ⟨yZ9,hyZ9,h⟩:=bind_s h
   obtain ⟨lZ10,hlZ10,h⟩:=bnd_s h
   have eZ11:(lZ7.map AV.i).set (Int.toNat sZ1.2.1) (.i yZ6)=lZ10.map AV.i:=by rw [← hlZ10,List.map_set]
   cases h
   exact ZL (ZA cZ2 (ZA hkZ3a (ZA hkZ3b (ZA hyZ4 (ZA hkZ5a (ZA hkZ5b (ZA hyZ6 (ZA eZ8 (ZA hyZ9 eZ11))))))))) (ZA @S_m.eq_1 (ZA @SX_m.eq_1 (ZA hlZ7.symm hlZ10.symm)))
 · cases h
   exact ZL cZ2 (ZA @S_m.eq_1 @SX_m.eq_1)
theorem w_dj (aaZ0:List Int) {r:List Int} (h:M_dj aaZ0=some r):OkM Try.prog 87 [.sl 1000000000 0 aaZ0.length] [(1000000000,.arr 1 (aaZ0.map AV.i))] ((fun (r:List Int)=>.tup []) r) ((fun (r:List Int)=>[(1000000000,.arr 1 (r.map AV.i))]) r):=by
 refine okM_of_body (lr:=[1000000000]) hmix m87M1 rfl rfl ?_
 unfold M_dj at h
 simp only [ZC,A87M1,V87M1]
 obtain ⟨oZ12,hoZ12,h⟩:=bind_s h
 try refine ZF trivial ?_
 first | refine tail_rule0 (blk_rule0 (loop_rule (w_m) hoZ12 ?_)) (fun τ qZ13=>?_) | refine tail_blk0 (loop_rule (w_m) hoZ12 ?_) (fun τ qZ13=>?_)
 · exact ZK (ZA @S_m.eq_1 @SX_m.eq_1)
 · cases h
   refine finM_shp qZ13 (by decide) ?_ rfl
   exact ZK (ZA @V87M1.eq_1 @SX_m.eq_1)
def S_e (s1Z0:List Int) (s2Z0:List Int) (v:Int):St:=⟨[(0,.lst .o 1 (s1Z0.map AV.i)),(1,.lst .o 1 (s2Z0.map AV.i)),(9,.lst .o 1 (s1Z0.map AV.i)),(10,.i (s1Z0.length:Int)),(11,.i v)],[]⟩
def SX_e (s1Z0:List Int) (s2Z0:List Int) (v:Unit):St:=⟨[(0,.lst .o 1 (s1Z0.map AV.i)),(1,.lst .o 1 (s2Z0.map AV.i))],[]⟩
theorem w_e (s1Z0:List Int) (s2Z0:List Int) (sZ1:Int) (o:Int ⊕ (Unit ⊕ Int)) (h:M_e s1Z0 s2Z0 sZ1=some o):AWP (OkS Try.prog) A88L1 (qL [0,1,9,10,11] [] (S_e s1Z0 s2Z0) (qS (qX 0 [0,1] [] (SX_e s1Z0 s2Z0)) (qR V88 (fun r=>.i r))) o) (S_e s1Z0 s2Z0 sZ1):=by
 unfold M_e at h
 simp only [ZC,S_e,A88L1]
 obtain ⟨cZ2,h⟩ | ⟨cZ2,h⟩:=cond_s h
 · obtain ⟨yZ3,hyZ3,h⟩:=bind_s h
   obtain ⟨hyZ3a,hyZ3b⟩:=geti_s hyZ3
   obtain ⟨cZ4,h⟩ | ⟨cZ4,h⟩:=cond_s h
   · cases h
     exact ZL (ZA cZ2 (ZA hyZ3a (ZA hyZ3b cZ4))) @V88.eq_1
   · obtain ⟨yZ5,hyZ5,h⟩:=bind_s h
     obtain ⟨hyZ5a,hyZ5b⟩:=geti_s hyZ5
     obtain ⟨rZ6,hrZ6,h⟩:=bind_s h
     refine ZF (ZA cZ2 (ZA hyZ3a (ZA hyZ3b (ZA cZ4 (ZA hyZ5a hyZ5b))))) ?_
     refine ZS (ZA cZ2 (ZA hyZ3a (ZA hyZ3b (ZA cZ4 (ZA hyZ5a hyZ5b))))) (w_z _ _ hrZ6) ?_
     refine ZG ?_
     obtain ⟨cZ7,h⟩ | ⟨cZ7,h⟩:=cond_s h
     · cases h
       exact ZL (ZA cZ2 (ZA hyZ3a (ZA hyZ3b (ZA cZ4 (ZA hyZ5a (ZA hyZ5b cZ7)))))) @V88.eq_1
     · cases h
       exact ZL (ZA cZ2 (ZA hyZ3a (ZA hyZ3b (ZA cZ4 (ZA hyZ5a (ZA hyZ5b cZ7)))))) (ZA @S_e.eq_1 @SX_e.eq_1)
 · cases h
   exact ZL cZ2 (ZA @S_e.eq_1 @SX_e.eq_1)
theorem w_bk (s1Z0:List Int) (s2Z0:List Int) {r:Int} (h:M_bk s1Z0 s2Z0=some r):Ok Try.prog 88 [.lst .o 1 (s1Z0.map AV.i),.lst .o 1 (s2Z0.map AV.i)] ((fun r=>.i r) r):=by
 refine ok_of_body hmix m88 rfl ?_
 unfold M_bk at h
 simp only [ZC,A88,V88,body_eq]
 obtain ⟨oZ8,hoZ8,h⟩:=bind_s h
 try refine ZF trivial ?_
 refine join_rule (o:=oZ8) (blk_rule sideR (loop_rule (w_e s1Z0 s2Z0) hoZ8 ?_)) (fun vZ9 hv=>?_) (fun xZ10 hv e τ hne hq=>?_)
 · exact ZK (ZA @S_e.eq_1 @SX_e.eq_1)
 · subst hv
   simp only [] at h
   simp only [ZC,SX_e,A88R2]
   obtain ⟨cZ11,h⟩ | ⟨cZ11,h⟩:=cond_s h
   · cases h
     exact ZL cZ11 @V88.eq_1
   · cases h
     exact ZL cZ11 @V88.eq_1
 · subst hv
   simp only [] at h
   obtain ⟨rfl,qZ12⟩:=hq
   cases h
   exact qZ12
def S_n (ringZ0:List Int) (rZ8:List Int×Int×Bool) (v:Int):St:=⟨[(1,.lst .o 1 (ringZ0.map AV.i)),(7,.sl 7 0 rZ8.1.length),(56,.sl 7 0 rZ8.1.length),(57,.i (rZ8.1.length:Int)),(58,.i v)],[(7,.arr 1 (rZ8.1.map AV.i))]⟩
def SX_n (ringZ0:List Int) (rZ8:List Int×Int×Bool) (v:Unit):St:=⟨[(1,.lst .o 1 (ringZ0.map AV.i)),(7,.sl 7 0 rZ8.1.length)],[(7,.arr 1 (rZ8.1.map AV.i))]⟩
theorem w_n (ringZ0:List Int) (rZ8:List Int×Int×Bool) (sZ14:Int) (o:Int ⊕ (Unit ⊕ (List Int×Bool))) (h:M_n rZ8 sZ14=some o):AWP (OkS Try.prog) A48L3 (qL [1,7,56,57,58] [7] (S_n ringZ0 rZ8) (qS (qX 0 [1,7] [7] (SX_n ringZ0 rZ8)) (qR V48 (fun r=>.tup [.lst .u 1 (r.1.map AV.i),.b r.2]))) o) (S_n ringZ0 rZ8 sZ14):=by
 unfold M_n at h
 simp only [ZC,S_n,A48L3]
 obtain ⟨cZ15,h⟩ | ⟨cZ15,h⟩:=cond_s h
 · obtain ⟨kZ16,hkZ16,h⟩:=bind_s h
   obtain ⟨hkZ16a,hkZ16b⟩:=grd_s hkZ16
   obtain ⟨yZ17,hyZ17,h⟩:=bind_s h
   obtain ⟨uZ18,huZ18,h⟩:=bind_s h
   obtain ⟨huZ18a,huZ18b,huZ18c,huZ18d⟩:=grd_s huZ18
   obtain ⟨lZ19,hlZ19,h⟩:=bnd_s h
   have eZ20:sub (rZ8.1.map AV.i) 0 (Int.toNat sZ14)=lZ19.map AV.i:=by rw [sub_mapT,hlZ19]
   obtain ⟨rZ21,hrZ21,h⟩:=bind_s h
   refine ZF (ZA cZ15 (ZA hkZ16a (ZA hkZ16b (ZA hyZ17 (ZA huZ18a (ZA huZ18b (ZA huZ18c (ZA huZ18d eZ20)))))))) ?_
   refine ZS (ZA cZ15 (ZA hkZ16a (ZA hkZ16b (ZA hyZ17 (ZA huZ18a (ZA huZ18b (ZA huZ18c (ZA huZ18d eZ20)))))))) (w_bn _ _ hrZ21) ?_
   refine ZG ?_
   obtain ⟨cZ22,h⟩ | ⟨cZ22,h⟩:=cond_s h
   · cases h
     exact ZL (ZA cZ15 (ZA hkZ16a (ZA hkZ16b (ZA hyZ17 (ZA huZ18a (ZA huZ18b (ZA huZ18c (ZA huZ18d (ZA eZ20 cZ22))))))))) @V48.eq_1
   · cases h
     exact ZL (ZA cZ15 (ZA hkZ16a (ZA hkZ16b (ZA hyZ17 (ZA huZ18a (ZA huZ18b (ZA huZ18c (ZA huZ18d (ZA eZ20 cZ22))))))))) (ZA @S_n.eq_1 @SX_n.eq_1)
 · cases h
   exact ZL cZ15 (ZA @S_n.eq_1 @SX_n.eq_1)
theorem w_bv (nZ0:TNetwork) (ringZ0:List Int) {r:List Int×Bool} (h:M_bv nZ0 ringZ0=some r):Ok Try.prog 48 [.agg [.lst .o 1 (nZ0.Nodes.map AV.z),.lst .o 4 (nZ0.Fibers.map (e_TFiber .o))],.lst .o 1 (ringZ0.map AV.i)] ((fun r=>.tup [.lst .u 1 (r.1.map AV.i),.b r.2]) r):=by
 refine ok_of_body hmix m48 rfl ?_
 unfold M_bv at h
 simp only [ZC,A48,V48,body_eq]
 obtain ⟨oZ4,hoZ4,h⟩:=bind_s h
 try refine ZF trivial ?_
 refine join_rule0 (sh:=(fun v=>⟨[(1,.lst .o 1 (ringZ0.map AV.i)),(2,.pt 2 0 0),(26,.b v)],[(2,.var (.agg [.lst .o 1 (nZ0.Nodes.map AV.z),.lst .o 4 (nZ0.Fibers.map (e_TFiber .o))]))]⟩)) (s:=oZ4) ?_ ?_
 · replace h:=hoZ4
   obtain ⟨cZ1,h⟩ | ⟨cZ1,h⟩:=cond_s h
   · cases h
     exact ZL cZ1 trivial
   · obtain ⟨yZ2,hyZ2,h⟩:=bind_s h
     obtain ⟨hyZ2a,hyZ2b⟩:=geti_s hyZ2
     obtain ⟨rZ3,hrZ3,h⟩:=bind_s h
     refine ZF (ZA cZ1 (ZA hyZ2a hyZ2b)) ?_
     refine ZS (ZA cZ1 (ZA hyZ2a hyZ2b)) (w_ba _ _ _ hrZ3) ?_
     refine ZG ?_
     cases h
     exact ZL (ZA cZ1 (ZA hyZ2a hyZ2b)) trivial
 · simp only [ZC,A48R1]
   obtain ⟨cZ5,h⟩ | ⟨cZ5,h⟩:=cond_s h
   · cases h
     exact ZL cZ5 @V48.eq_1
   · obtain ⟨yZ6,hyZ6,h⟩:=bind_s h
     obtain ⟨hyZ6a,hyZ6b⟩:=geti_s hyZ6
     obtain ⟨yZ7,hyZ7,h⟩:=bind_s h
     obtain ⟨hyZ7a,hyZ7b⟩:=geti_s hyZ7
     obtain ⟨rZ8,hrZ8,h⟩:=bind_s h
     refine ZF (ZA cZ5 (ZA hyZ6a (ZA hyZ6b (ZA hyZ7a hyZ7b)))) ?_
     refine ZU (ZA cZ5 (ZA hyZ6a (ZA hyZ6b (ZA hyZ7a hyZ7b)))) (w_dg _ _ _ hrZ8) ?_
     refine ZG ?_
     obtain ⟨oZ12,hoZ12,h⟩:=bind_s h
     try refine ZF (ZA cZ5 (ZA hyZ6a (ZA hyZ6b (ZA hyZ7a hyZ7b)))) ?_
     refine join_rule0 (sh:=(fun v=>⟨[(1,.lst .o 1 (ringZ0.map AV.i)),(7,.sl 7 0 rZ8.1.length),(55,.b v)],[(7,.arr 1 (rZ8.1.map AV.i))]⟩)) (s:=oZ12) ?_ ?_
     · replace h:=hoZ12
       obtain ⟨cZ9,h⟩ | ⟨cZ9,h⟩:=cond_s h
       · cases h
         exact ZL (ZA cZ5 (ZA hyZ6a (ZA hyZ6b (ZA hyZ7a (ZA hyZ7b cZ9))))) trivial
       · obtain ⟨cZ10,h⟩ | ⟨cZ10,h⟩:=cond_s h
         · cases h
           exact ZL (ZA cZ5 (ZA hyZ6a (ZA hyZ6b (ZA hyZ7a (ZA hyZ7b (ZA cZ9 cZ10)))))) trivial
         · obtain ⟨rZ11,hrZ11,h⟩:=bind_s h
           refine ZF (ZA cZ5 (ZA hyZ6a (ZA hyZ6b (ZA hyZ7a (ZA hyZ7b (ZA cZ9 cZ10)))))) ?_
           refine ZS (ZA cZ5 (ZA hyZ6a (ZA hyZ6b (ZA hyZ7a (ZA hyZ7b (ZA cZ9 cZ10)))))) (w_dh _ hrZ11) ?_
           refine ZG ?_
           cases h
           exact ZL (ZA cZ5 (ZA hyZ6a (ZA hyZ6b (ZA hyZ7a (ZA hyZ7b (ZA cZ9 cZ10)))))) trivial
     · simp only [ZC,A48R2]
       obtain ⟨cZ13,h⟩ | ⟨cZ13,h⟩:=cond_s h
       · cases h
         exact ZL (ZA cZ5 (ZA hyZ6a (ZA hyZ6b (ZA hyZ7a (ZA hyZ7b cZ13))))) @V48.eq_1
       · obtain ⟨oZ23,hoZ23,h⟩:=bind_s h
         try refine ZF (ZA cZ5 (ZA hyZ6a (ZA hyZ6b (ZA hyZ7a (ZA hyZ7b cZ13))))) ?_
         refine join_rule (o:=oZ23) (blk_rule sideR (loop_rule (w_n ringZ0 rZ8) hoZ23 ?_)) (fun vZ24 hv=>?_) (fun xZ25 hv e τ hne hq=>?_)
         · exact ZK (ZA @S_n.eq_1 @SX_n.eq_1)
         · subst hv
           simp only [] at h
           simp only [ZC,SX_n,A48R4]
           obtain ⟨rZ26,hrZ26,h⟩:=bind_s h
           refine ZF (ZA cZ5 (ZA hyZ6a (ZA hyZ6b (ZA hyZ7a (ZA hyZ7b cZ13))))) ?_
           refine ZU (ZA cZ5 (ZA hyZ6a (ZA hyZ6b (ZA hyZ7a (ZA hyZ7b cZ13))))) (w_di _ hrZ26) ?_
           refine ZG ?_
           obtain ⟨rZ27,hrZ27,h⟩:=bind_s h
           refine ZF (ZA cZ5 (ZA hyZ6a (ZA hyZ6b (ZA hyZ7a (ZA hyZ7b cZ13))))) ?_
           refine ZW (ZA cZ5 (ZA hyZ6a (ZA hyZ6b (ZA hyZ7a (ZA hyZ7b cZ13))))) (w_dj _ hrZ27) (h2:=by first | exact nm_ok [1000000000] rfl (by decide +kernel) | exact nm_ok2 [1000000000] [] rfl (by decide +kernel) ZQ | exact ZQ) (hk:=?_)
           refine ZG ?_
           obtain ⟨lZ28,hlZ28,h⟩:=bnd_s h
           have eZ29:sub (rZ27.map AV.i) 0 rZ26.length=lZ28.map AV.i:=by rw [sub_mapT,hlZ28]
           obtain ⟨rZ30,hrZ30,h⟩:=bind_s h
           refine ZF (ZA cZ5 (ZA hyZ6a (ZA hyZ6b (ZA hyZ7a (ZA hyZ7b (ZA cZ13 eZ29)))))) ?_
           refine ZS (ZA cZ5 (ZA hyZ6a (ZA hyZ6b (ZA hyZ7a (ZA hyZ7b (ZA cZ13 eZ29)))))) (w_bk _ _ hrZ30) ?_
           refine ZG ?_
           cases h
           exact ZL (ZA cZ5 (ZA hyZ6a (ZA hyZ6b (ZA hyZ7a (ZA hyZ7b (ZA cZ13 eZ29)))))) @V48.eq_1
         · subst hv
           simp only [] at h
           obtain ⟨rfl,qZ31⟩:=hq
           cases h
           exact qZ31
theorem w_dk (nZ0:TNetwork) (ringZ0:List Int) {r:List Int×Bool} (h:M_dk nZ0 ringZ0=some r):Ok Try.prog 18 [.agg [.lst .o 1 (nZ0.Nodes.map AV.z),.lst .o 4 (nZ0.Fibers.map (e_TFiber .o))],.lst .o 1 (ringZ0.map AV.i)] ((fun r=>.tup [.lst .u 1 (r.1.map AV.i),.b r.2]) r):=by
 refine ok_of_body hmix m18 rfl ?_
 unfold M_dk at h
 simp only [ZC,A18,V18,body_eq]
 obtain ⟨rZ1,hrZ1,h⟩:=bind_s h
 refine ZF trivial ?_
 refine ZS trivial (w_ds _ hrZ1) ?_
 refine ZG ?_
 obtain ⟨cZ2,h⟩ | ⟨cZ2,h⟩:=cond_s h
 · cases h
   exact ZL cZ2 @V18.eq_1
 · obtain ⟨rZ3,hrZ3,h⟩:=bind_s h
   refine ZF cZ2 ?_
   refine ZU cZ2 (w_bv _ _ hrZ3) ?_
   refine ZG ?_
   obtain ⟨cZ4,h⟩ | ⟨cZ4,h⟩:=cond_s h
   · cases h
     exact ZL (ZA cZ2 cZ4) @V18.eq_1
   · cases h
     exact ZL (ZA cZ2 cZ4) @V18.eq_1
theorem w_dl (nZ0:TNetwork) (ringZ0:List Int) {r:Bool} (h:M_dl nZ0 ringZ0=some r):Ok Try.prog 14 [.agg [.lst .o 1 (nZ0.Nodes.map AV.z),.lst .o 4 (nZ0.Fibers.map (e_TFiber .o))],.lst .o 1 (ringZ0.map AV.i)] ((fun r=>.b r) r):=by
 refine ok_of_body hmix m14 rfl ?_
 unfold M_dl at h
 simp only [ZC,A14,V14,body_eq]
 obtain ⟨rZ1,hrZ1,h⟩:=bind_s h
 refine ZF trivial ?_
 refine ZU trivial (w_dk _ _ hrZ1) ?_
 refine ZG ?_
 cases h
 exact ZL trivial @V14.eq_1
theorem w_bb (aaZ0:TRoute) (abZ0:Int) {r:Bool×Int} (h:M_bb aaZ0 abZ0=some r):OkM Try.prog 66 [.agg [.i ((aaZ0).Start),.lst .s 1 (((aaZ0).Fibers).map AV.i)],.pt 1000000000 0 0] [(1000000000,.var (.i abZ0))] ((fun (r:Bool×Int)=>.b r.1) r) ((fun (r:Bool×Int)=>[(1000000000,.var (.i r.2))]) r):=by
 refine okM_of_body (lr:=[1000000000]) hmix m66M1 rfl rfl ?_
 unfold M_bb at h
 simp only [ZC,A66M1,V66M1]
 obtain ⟨rZ1,hrZ1,h⟩:=bind_s h
 refine ZF trivial ?_
 refine ZS trivial (w_bn _ _ hrZ1) ?_
 refine ZG ?_
 cases h
 exact ZL trivial @V66M1.eq_1
def S_az {H:World→Prop} (aaZ0:List (Tok H e_TRoute 2)) (v:Int×Int):St:=⟨[(0,.sl 1000000000 0 aaZ0.length),(1,.fn 66 [.pt 1000000001 0 0]),(7,.i (aaZ0.length:Int)),(8,.i v.1)],[(1000000000,.arr 2 (aaZ0.map tokE)),(1000000001,.var (.i v.2))]⟩
def SX_az {H:World→Prop} (aaZ0:List (Tok H e_TRoute 2)) (v:Int):St:=⟨[],[(1000000000,.arr 2 (aaZ0.map tokE)),(1000000001,.var (.i v))]⟩
theorem w_az {H:World→Prop} (aaZ0:List (Tok H e_TRoute 2)) (sZ1:Int×Int) (o:(Int×Int) ⊕ (Int ⊕ (Int×List (Tok H e_TRoute 2)×Int))) (h:M_az Tok.x tz_TRoute aaZ0 sZ1=some o):AWP (OkT H Try.prog) A104M1L1 (qL [0,1,7,8] [1000000000,1000000001] (S_az aaZ0) (qS (qX 0 [] [1000000000,1000000001] (SX_az aaZ0)) (qM V104M1 [1000000000,1000000001] (fun (r:Int×List (Tok H e_TRoute 2)×Int)=>.i r.1) (fun (r:Int×List (Tok H e_TRoute 2)×Int)=>[(1000000000,.arr 2 (r.2.1.map tokE)),(1000000001,.var (.i r.2.2))]))) o) (S_az aaZ0 sZ1):=by
 unfold M_az at h
 simp only [ZC,S_az,A104M1L1]
 obtain ⟨cZ2,h⟩ | ⟨cZ2,h⟩:=cond_s h
 · obtain ⟨kZ3,hkZ3,h⟩:=bind_s h
   obtain ⟨hkZ3a,hkZ3b⟩:=grd_s hkZ3
   obtain ⟨yZ4,hyZ4,h⟩:=bind_s h
   obtain ⟨rZ5,hrZ5,h⟩:=bind_s h
   refine ZF (ZA okt_p (ZA okt_m (ZA cZ2 (ZA hkZ3a (ZA hkZ3b hyZ4))))) ?_
   refine ZW (ZA okt_p (ZA okt_m (ZA cZ2 (ZA hkZ3a (ZA hkZ3b hyZ4))))) (okMR_tok yZ4 (w_bb _ _ hrZ5)) (h2:=by first | exact nm_ok [1000000000] rfl (by decide +kernel) | exact nm_ok2 [1000000000] [] rfl (by decide +kernel) ZQ | exact ZQ) (hk:=?_)
   refine ZG ?_
   obtain ⟨cZ6,h⟩ | ⟨cZ6,h⟩:=cond_s h
   · cases h
     exact ZL (ZA okt_p (ZA okt_m (ZA cZ2 (ZA hkZ3a (ZA hkZ3b (ZA hyZ4 cZ6)))))) @V104M1.eq_1
   · cases h
     exact ZL (ZA okt_p (ZA okt_m (ZA cZ2 (ZA hkZ3a (ZA hkZ3b (ZA hyZ4 cZ6)))))) (ZA @S_az.eq_1 @SX_az.eq_1)
 · cases h
   exact ZL (ZA okt_p (ZA okt_m cZ2)) (ZA @S_az.eq_1 @SX_az.eq_1)
theorem w_ca {H:World→Prop} (aaZ0:List (Tok H e_TRoute 2)) (abZ0:Int) {r:Int×List (Tok H e_TRoute 2)×Int} (h:M_ca Tok.x tz_TRoute aaZ0 abZ0=some r):OkMR H Try.prog 104 [.sl 1000000000 0 aaZ0.length,.fn 66 [.pt 1000000001 0 0]] [(1000000000,.arr 2 (aaZ0.map tokE)),(1000000001,.var (.i abZ0))] ((fun (r:Int×List (Tok H e_TRoute 2)×Int)=>.i r.1) r) ((fun (r:Int×List (Tok H e_TRoute 2)×Int)=>[(1000000000,.arr 2 (r.2.1.map tokE)),(1000000001,.var (.i r.2.2))]) r):=by
 refine okMR_of_body (lr:=[1000000000,1000000001]) hmix m104M1 rfl rfl ?_
 unfold M_ca at h
 simp only [ZC,A104M1,V104M1]
 obtain ⟨oZ7,hoZ7,h⟩:=bind_s h
 try refine ZF (ZA okt_p okt_m) ?_
 refine join_rule (o:=oZ7) (blk_rule sideM (loop_rule (w_az aaZ0) hoZ7 ?_)) (fun vZ8 hv=>?_) (fun xZ9 hv e τ hne hq=>?_)
 · exact ZK (ZA @S_az.eq_1 @SX_az.eq_1)
 · subst hv
   simp only [] at h
   simp only [ZC,SX_az,A104M1R2]
   cases h
   exact ZL (ZA okt_p okt_m) @V104M1.eq_1
 · subst hv
   simp only [] at h
   obtain ⟨rfl,qZ10⟩:=hq
   cases h
   exact qZ10
def S_r {H:World→Prop} (aaZ0:List (Tok H e_TRoute 2)) (v:Int×Int×List (Tok H e_TRoute 2)×Int):St:=⟨[(0,.sl 1000000000 0 aaZ0.length),(1,.fn 66 [.pt 1000000001 0 0]),(5,.i v.1),(6,.i v.2.1)],[(1000000000,.arr 2 (v.2.2.1.map tokE)),(1000000001,.var (.i v.2.2.2))]⟩
def SX_r {H:World→Prop} (aaZ0:List (Tok H e_TRoute 2)) (v:Int×List (Tok H e_TRoute 2)×Int):St:=⟨[(0,.sl 1000000000 0 aaZ0.length),(5,.i v.1)],[(1000000000,.arr 2 (v.2.1.map tokE)),(1000000001,.var (.i v.2.2))]⟩
theorem w_r {H:World→Prop} (aaZ0:List (Tok H e_TRoute 2)) (sZ3:Int×Int×List (Tok H e_TRoute 2)×Int) (o:(Int×Int×List (Tok H e_TRoute 2)×Int) ⊕ (Int×List (Tok H e_TRoute 2)×Int)) (h:M_r Tok.x tz_TRoute aaZ0 sZ3=some o):AWP (OkT H Try.prog) A65M1L1 (qL [0,1,5,6] [1000000000,1000000001] (S_r aaZ0) (qX 0 [0,5] [1000000000,1000000001] (SX_r aaZ0)) o) (S_r aaZ0 sZ3):=by
 unfold M_r at h
 simp only [ZC,S_r,A65M1L1]
 obtain ⟨cZ4,h⟩ | ⟨cZ4,h⟩:=cond_s h
 · obtain ⟨kZ5,hkZ5,h⟩:=bind_s h
   obtain ⟨hkZ5a,hkZ5b⟩:=grd_s hkZ5
   obtain ⟨yZ6,hyZ6,h⟩:=bind_s h
   obtain ⟨rZ7,hrZ7,h⟩:=bind_s h
   refine ZF (ZA okt_p (ZA okt_m (ZA cZ4 (ZA hkZ5a (ZA hkZ5b hyZ6))))) ?_
   refine ZW (ZA okt_p (ZA okt_m (ZA cZ4 (ZA hkZ5a (ZA hkZ5b hyZ6))))) (okMR_tok yZ6 (w_bb _ _ hrZ7)) (h2:=by first | exact nm_ok [1000000000] rfl (by decide +kernel) | exact nm_ok2 [1000000000] [] rfl (by decide +kernel) ZQ | exact ZQ) (hk:=?_)
   refine ZG ?_
   obtain ⟨cZ8,h⟩ | ⟨cZ8,h⟩:=cond_s h
   · obtain ⟨kZ9,hkZ9,h⟩:=bind_s h
     obtain ⟨hkZ9a,hkZ9b⟩:=grd_s hkZ9
     obtain ⟨yZ10,hyZ10,h⟩:=bind_s h
     obtain ⟨lZ11,hlZ11,h⟩:=bnd_s h
     have eZ12:(sZ3.2.2.1.map tokE).set (Int.toNat sZ3.1) ((tokE yZ6))=lZ11.map tokE:=by rw [← hlZ11,List.map_set]
     cases h
     exact ZL (ZA okt_p (ZA okt_m (ZA cZ4 (ZA hkZ5a (ZA hkZ5b (ZA hyZ6 (ZA cZ8 (ZA hkZ9a (ZA hkZ9b (ZA hyZ10 eZ12)))))))))) (ZA @S_r.eq_1 (ZA @SX_r.eq_1 hlZ11.symm))
   · cases h
     exact ZL (ZA okt_p (ZA okt_m (ZA cZ4 (ZA hkZ5a (ZA hkZ5b (ZA hyZ6 cZ8)))))) (ZA @S_r.eq_1 @SX_r.eq_1)
 · cases h
   exact ZL (ZA okt_p (ZA okt_m cZ4)) (ZA @S_r.eq_1 @SX_r.eq_1)
theorem w_bj {H:World→Prop} (aaZ0:List (Tok H e_TRoute 2)) (abZ0:Int) {r:Nat×Nat×List (Tok H e_TRoute 2)×Int} (h:M_bj Tok.x tz_TRoute aaZ0 abZ0=some r):OkMR H Try.prog 65 [.sl 1000000000 0 aaZ0.length,.fn 66 [.pt 1000000001 0 0]] [(1000000000,.arr 2 (aaZ0.map tokE)),(1000000001,.var (.i abZ0))] ((fun (r:Nat×Nat×List (Tok H e_TRoute 2)×Int)=>.sl 1000000000 r.1 r.2.1) r) ((fun (r:Nat×Nat×List (Tok H e_TRoute 2)×Int)=>[(1000000000,.arr 2 (r.2.2.1.map tokE)),(1000000001,.var (.i r.2.2.2))]) r):=by
 refine okMR_of_body (lr:=[1000000000,1000000001]) hmix m65M1 rfl rfl ?_
 unfold M_bj at h
 simp only [ZC,A65M1,V65M1]
 obtain ⟨rZ1,hrZ1,h⟩:=bind_s h
 refine ZF (ZA okt_p okt_m) ?_
 refine ZW (ZA okt_p okt_m) (w_ca _ _ hrZ1) (h2:=by first | exact nm_ok [1000000000,1000000001] rfl (by decide +kernel) | exact nm_ok2 [1000000000,1000000001] [] rfl (by decide +kernel) ZQ | exact ZQ) (hk:=?_)
 refine ZG ?_
 obtain ⟨cZ2,h⟩ | ⟨cZ2,h⟩:=cond_s h
 · cases h
   exact ZL (ZA okt_p (ZA okt_m cZ2)) @V65M1.eq_1
 · obtain ⟨oZ13,hoZ13,h⟩:=bind_s h
   try refine ZF (ZA okt_p (ZA okt_m cZ2)) ?_
   refine join_rule0 (blk_rule0 (loop_rule (w_r aaZ0) hoZ13 ?_)) ?_
   · exact ZK (ZA @S_r.eq_1 @SX_r.eq_1)
   · simp only [ZC,SX_r,A65M1R2]
     obtain ⟨uZ14,huZ14,h⟩:=bind_s h
     obtain ⟨huZ14a,huZ14b,huZ14c,huZ14d⟩:=grd_s huZ14
     obtain ⟨lZ15,hlZ15,h⟩:=bnd_s h
     have eZ16:over (oZ13.2.1.map tokE) (Int.toNat oZ13.1) (List.replicate (aaZ0.length - (Int.toNat oZ13.1)) (.agg [.i 0,.sc (.slice none 0 0)]:AV))=lZ15.map tokE:=by rw [← hlZ15,← over_map] <;> simp [List.map_take,tz_TRoute_E]
     try simp only [Int.toNat_natCast] at eZ16
     have eZ17:lZ15.length=oZ13.2.1.length:=by rw [← hlZ15]; exact over_length _ _ _
     obtain ⟨uZ18,huZ18,h⟩:=bind_s h
     obtain ⟨huZ18a,huZ18b,huZ18c,huZ18d⟩:=grd_s huZ18
     cases h
     exact ZL (ZA okt_p (ZA okt_m (ZA cZ2 (ZA huZ14a (ZA huZ14b (ZA huZ14c (ZA huZ14d (ZA eZ16 (ZA huZ18a (ZA huZ18b (ZA huZ18c huZ18d))))))))))) (ZA @V65M1.eq_1 eZ17)
theorem w_ee (aaZ0:List TRoute) (abZ0:Int) {r:Nat×Nat×List TRoute×Int} (h:M_bj id (⟨0,[]⟩:TRoute) aaZ0 abZ0=some r):OkM Try.prog 65 [.sl 1000000000 0 aaZ0.length,.fn 66 [.pt 1000000001 0 0]] [(1000000000,.arr 2 (aaZ0.map (e_TRoute .u))),(1000000001,.var (.i abZ0))] ((fun (r:Nat×Nat×List TRoute×Int)=>.sl 1000000000 r.1 r.2.1) r) ((fun (r:Nat×Nat×List TRoute×Int)=>[(1000000000,.arr 2 (r.2.2.1.map (e_TRoute .u))),(1000000001,.var (.i r.2.2.2))]) r):=by
 refine okM_lift (E:=e_TRoute) (k:=2) (R:=1000000000) (R':=1000000000) (xs:=aaZ0) (ys:=r.2.2.1) (ins:=[(1000000000,.arr 2 (aaZ0.map (e_TRoute .u))),(1000000001,.var (.i abZ0))]) (outsR:=(fun (r:Nat×Nat×List TRoute×Int)=>[(1000000000,.arr 2 (r.2.2.1.map (e_TRoute .u))),(1000000001,.var (.i r.2.2.2))]) r) (fun x=>⟨_,rfl,rfl⟩) (by decide) (fun w S B v x fp h B'=>sh_TRoute x ▸ h.shs B') rfl (fun _ _=>rfl) rfl (fun _ _=>rfl) (flat_of (by simp [Row.flatU,AV.noU])) fun H XZ0 hX=>?_
 subst hX
 obtain ⟨YZ0,h1,h2,h3⟩:=p_slices_DeleteFunc_RouteM1 XZ0 abZ0 h
 have hw:=w_bj XZ0 abZ0 h1
 try simp only [List.length_map]
 exact ⟨YZ0,_,_,h2,h3,rfl,fun q hq=>by simp only [look,if_neg (Ne.symm hq)],rfl,fun q hq=>by simp only [look,if_neg (Ne.symm hq)],hw⟩
def S_aq (nZ0:TNetwork) (rZ0:TRoute) (v:Int×Int):St:=⟨[(2,.pt 2 0 0),(5,.i v.1),(9,.lst .o 1 (rZ0.Fibers.map AV.i)),(10,.i (rZ0.Fibers.length:Int)),(11,.i v.2)],[(2,.var (.agg [.lst .o 1 (nZ0.Nodes.map AV.z),.lst .o 4 (nZ0.Fibers.map (e_TFiber .o))]))]⟩
def SX_aq (v:Int):St:=⟨[(5,.i v)],[]⟩
theorem w_aq (nZ0:TNetwork) (rZ0:TRoute) (sZ1:Int×Int) (o:(Int×Int) ⊕ Int) (h:M_aq nZ0 rZ0 sZ1=some o):AWP (OkS Try.prog) A107L1 (qL [2,5,9,10,11] [2] (S_aq nZ0 rZ0) (qX 0 [5] [] (SX_aq)) o) (S_aq nZ0 rZ0 sZ1):=by
 unfold M_aq at h
 simp only [ZC,S_aq,A107L1]
 obtain ⟨cZ2,h⟩ | ⟨cZ2,h⟩:=cond_s h
 · obtain ⟨yZ3,hyZ3,h⟩:=bind_s h
   obtain ⟨hyZ3a,hyZ3b⟩:=geti_s hyZ3
   obtain ⟨yZ4,hyZ4,h⟩:=bind_s h
   obtain ⟨hyZ4a,hyZ4b⟩:=geti_s hyZ4
   cases h
   exact ZL (ZA cZ2 (ZA hyZ3a (ZA hyZ3b (ZA hyZ4a hyZ4b)))) (ZA @S_aq.eq_1 @SX_aq.eq_1)
 · cases h
   exact ZL cZ2 (ZA @S_aq.eq_1 @SX_aq.eq_1)
theorem w_bp (nZ0:TNetwork) (rZ0:TRoute) {r:Int} (h:M_bp nZ0 rZ0=some r):Ok Try.prog 107 [.agg [.lst .o 1 (nZ0.Nodes.map AV.z),.lst .o 4 (nZ0.Fibers.map (e_TFiber .o))],.agg [.i rZ0.Start,.lst .o 1 (rZ0.Fibers.map AV.i)]] ((fun r=>.i r) r):=by
 refine ok_of_body hmix m107 rfl ?_
 unfold M_bp at h
 simp only [ZC,A107,V107,body_eq]
 obtain ⟨oZ5,hoZ5,h⟩:=bind_s h
 try refine ZF trivial ?_
 refine join_rule0 (blk_rule0 (loop_rule (w_aq nZ0 rZ0) hoZ5 ?_)) ?_
 · exact ZK (ZA @S_aq.eq_1 @SX_aq.eq_1)
 · simp only [ZC,SX_aq,A107R2]
   cases h
   exact ZL trivial @V107.eq_1
theorem w_de (nZ0:TNetwork) (aZ0:TRoute) (bZ0:TRoute) {r:Int} (h:M_de nZ0 aZ0 bZ0=some r):Ok Try.prog 70 [.agg [.lst .o 1 (nZ0.Nodes.map AV.z),.lst .o 4 (nZ0.Fibers.map (e_TFiber .o))],.agg [.i aZ0.Start,.lst .o 1 (aZ0.Fibers.map AV.i)],.agg [.i bZ0.Start,.lst .o 1 (bZ0.Fibers.map AV.i)]] ((fun r=>.i r) r):=by
 refine ok_of_body hmix m70 rfl ?_
 unfold M_de at h
 simp only [ZC,A70,V70,body_eq]
 obtain ⟨rZ1,hrZ1,h⟩:=bind_s h
 refine ZF trivial ?_
 refine ZS trivial (w_bp _ _ hrZ1) ?_
 refine ZG ?_
 obtain ⟨rZ2,hrZ2,h⟩:=bind_s h
 refine ZF trivial ?_
 refine ZS trivial (w_bp _ _ hrZ2) ?_
 refine ZG ?_
 obtain ⟨rZ3,hrZ3,h⟩:=bind_s h
 refine ZF trivial ?_
 refine ZS trivial (w_z _ _ hrZ3) ?_
 refine ZG ?_
 obtain ⟨rZ4,hrZ4,h⟩:=bind_s h
 refine ZF trivial ?_
 refine ZS trivial (w_z _ _ hrZ4) ?_
 refine ZG ?_
 obtain ⟨rZ5,hrZ5,h⟩:=bind_s h
 refine ZF trivial ?_
 refine ZS trivial (w_bk _ _ hrZ5) ?_
 refine ZG ?_
 obtain ⟨rZ6,hrZ6,h⟩:=bind_s h
 refine ZF trivial ?_
 refine ZS trivial (w_z _ _ hrZ6) ?_
 refine ZG ?_
 obtain ⟨lZ7,hlZ7,h⟩:=bnd_s h
 have eZ8:Row.arr 1 [(.i rZ3:AV),(.i rZ4:AV),(.i rZ5:AV),(.i rZ6:AV)]=Row.arr 1 (lZ7.map AV.i):=by rw [← hlZ7]; rfl
 have jjZ9:lZ7.length=4:=by rw [← hlZ7]; rfl
 have nZ10:sub (lZ7.map AV.i) 0 4=lZ7.map AV.i:=sub_n _ (by simp [← hlZ7])
 obtain ⟨rZ11,hrZ11,h⟩:=bind_s h
 refine ZF (ZA eZ8 (ZA jjZ9 nZ10)) ?_
 refine ZS (ZA eZ8 (ZA jjZ9 nZ10)) (w_bo _ hrZ11) ?_
 refine ZG ?_
 cases h
 exact ZL (ZA eZ8 (ZA jjZ9 nZ10)) (ZA @V70.eq_1 (ZA hlZ7.symm jjZ9))
theorem w_cb (aZ0:TRoute) (bZ0:TRoute) (p2Z0:TNetwork) {r:Int} (h:M_cb aZ0 bZ0 p2Z0=some r):Ok Try.prog 69 [.agg [.i aZ0.Start,.lst .o 1 (aZ0.Fibers.map AV.i)],.agg [.i bZ0.Start,.lst .o 1 (bZ0.Fibers.map AV.i)],.bp .o (.agg [.lst .o 1 (p2Z0.Nodes.map AV.z),.lst .o 4 (p2Z0.Fibers.map (e_TFiber .o))]) 0] ((fun r=>.i r) r):=by
 refine ok_of_body hmix m69 rfl ?_
 unfold M_cb at h
 simp only [ZC,A69,V69,body_eq]
 obtain ⟨rZ1,hrZ1,h⟩:=bind_s h
 refine ZF trivial ?_
 refine ZS trivial (w_de _ _ _ hrZ1) ?_
 refine ZG ?_
 cases h
 exact ZL trivial @V69.eq_1
def S_s (nZ0:TNetwork) (ringZ0:List Int) (fiberZ0:Int) (yZ7:TFiber) (rZ8:Int) (rZ9:Int) (v:Int×List Int):St:=⟨[(1,.lst .o 1 (ringZ0.map AV.i)),(3,.pt 3 0 0),(5,.pt 5 0 0),(11,.i (ringZ0.length:Int)),(12,.i rZ8),(13,.i rZ9),(14,.pt 14 0 0),(15,.pt 15 0 0),(16,.i v.1)],[(3,.var (.agg [.lst .o 1 (nZ0.Nodes.map AV.z),.lst .o 4 (nZ0.Fibers.map (e_TFiber .o))])),(5,.var (.i fiberZ0)),(14,.var (.agg [.i yZ7.A,.sl 500000897 0 v.2.length])),(15,.var (.agg [.i yZ7.A,.sl 500000961 0 0])),(500000897,.arr 1 (v.2.map AV.i)),(500000961,.arr 1 [])]⟩
def SX_s (nZ0:TNetwork) (ringZ0:List Int) (fiberZ0:Int) (yZ7:TFiber) (rZ8:Int) (rZ9:Int) (v:List Int):St:=⟨[(1,.lst .o 1 (ringZ0.map AV.i)),(3,.pt 3 0 0),(5,.pt 5 0 0),(11,.i (ringZ0.length:Int)),(12,.i rZ8),(13,.i rZ9),(14,.pt 14 0 0),(15,.pt 15 0 0)],[(3,.var (.agg [.lst .o 1 (nZ0.Nodes.map AV.z),.lst .o 4 (nZ0.Fibers.map (e_TFiber .o))])),(5,.var (.i fiberZ0)),(14,.var (.agg [.i yZ7.A,.sl 500000897 0 v.length])),(15,.var (.agg [.i yZ7.A,.sl 500000961 0 0])),(500000897,.arr 1 (v.map AV.i)),(500000961,.arr 1 [])]⟩
theorem w_s (nZ0:TNetwork) (ringZ0:List Int) (fiberZ0:Int) (yZ7:TFiber) (rZ8:Int) (rZ9:Int) (sZ13:Int×List Int) (o:(Int×List Int) ⊕ (List Int)) (h:M_s ringZ0 rZ9 sZ13=some o):AWP (OkS Try.prog) A34L3 (qL [1,3,5,11,12,13,14,15,16] [3,5,14,15,500000897,500000961] (S_s nZ0 ringZ0 fiberZ0 yZ7 rZ8 rZ9) (qX 0 [1,3,5,11,12,13,14,15] [3,5,14,15,500000897,500000961] (SX_s nZ0 ringZ0 fiberZ0 yZ7 rZ8 rZ9)) o) (S_s nZ0 ringZ0 fiberZ0 yZ7 rZ8 rZ9 sZ13):=by
 unfold M_s at h
 simp only [ZC,S_s,A34L3]
 obtain ⟨cZ14,h⟩ | ⟨cZ14,h⟩:=cond_s h
 · obtain ⟨yZ15,hyZ15,h⟩:=bind_s h
   obtain ⟨hyZ15a,hyZ15b⟩:=geti_s hyZ15
   obtain ⟨lZ16,hlZ16,h⟩:=bnd_s h
   have eZ17:Row.arr 1 [(.i yZ15:AV)]=Row.arr 1 (lZ16.map AV.i):=by rw [← hlZ16]; rfl
   have jjZ18:lZ16.length=1:=by rw [← hlZ16]; rfl
   obtain ⟨uZ19,huZ19,h⟩:=bind_s h
   have huZ19g:=grd_s huZ19
   obtain ⟨lZ20,hlZ20,h⟩:=bnd_s h
   have eZ21:sZ13.2.map AV.i++lZ16.map AV.i=lZ20.map AV.i:=by rw [← hlZ20,List.map_append]
   have eZ22:sZ13.2.length+1=lZ20.length:=by simp [← hlZ16,← hlZ20] <;> omega
   rw [eZ22] at huZ19g
   obtain ⟨uZ23,huZ23,h⟩:=bind_s h
   have huZ23g:=grd_s huZ23
   cases h
   exact ZL (ZA cZ14 (ZA hyZ15a (ZA hyZ15b (ZA eZ17 (ZA jjZ18 (ZA huZ19g (ZA eZ21 (ZA eZ22 huZ23g)))))))) (ZA @S_s.eq_1 (ZA @SX_s.eq_1 (ZA hlZ16.symm (ZA hlZ20.symm jjZ18))))
 · cases h
   exact ZL cZ14 (ZA @S_s.eq_1 @SX_s.eq_1)
def S_t (nZ0:TNetwork) (ringZ0:List Int) (fiberZ0:Int) (yZ7:TFiber) (rZ9:Int) (oZ24:List Int) (v:Int×List Int):St:=⟨[(1,.lst .o 1 (ringZ0.map AV.i)),(3,.pt 3 0 0),(5,.pt 5 0 0),(11,.i (ringZ0.length:Int)),(13,.i rZ9),(14,.pt 14 0 0),(15,.pt 15 0 0),(17,.i v.1)],[(3,.var (.agg [.lst .o 1 (nZ0.Nodes.map AV.z),.lst .o 4 (nZ0.Fibers.map (e_TFiber .o))])),(5,.var (.i fiberZ0)),(14,.var (.agg [.i yZ7.A,.sl 500000897 0 oZ24.length])),(15,.var (.agg [.i yZ7.A,.sl 500000961 0 v.2.length])),(500000897,.arr 1 (oZ24.map AV.i)),(500000961,.arr 1 (v.2.map AV.i))]⟩
def SX_t (nZ0:TNetwork) (fiberZ0:Int) (yZ7:TFiber) (oZ24:List Int) (v:List Int):St:=⟨[(3,.pt 3 0 0),(5,.pt 5 0 0),(14,.pt 14 0 0),(15,.pt 15 0 0)],[(3,.var (.agg [.lst .o 1 (nZ0.Nodes.map AV.z),.lst .o 4 (nZ0.Fibers.map (e_TFiber .o))])),(5,.var (.i fiberZ0)),(14,.var (.agg [.i yZ7.A,.sl 500000897 0 oZ24.length])),(15,.var (.agg [.i yZ7.A,.sl 500000961 0 v.length])),(500000897,.arr 1 (oZ24.map AV.i)),(500000961,.arr 1 (v.map AV.i))]⟩
theorem w_t (nZ0:TNetwork) (ringZ0:List Int) (fiberZ0:Int) (yZ7:TFiber) (rZ9:Int) (oZ24:List Int) (sZ25:Int×List Int) (o:(Int×List Int) ⊕ (List Int)) (h:M_t ringZ0 rZ9 sZ25=some o):AWP (OkS Try.prog) A34L5 (qL [1,3,5,11,13,14,15,17] [3,5,14,15,500000897,500000961] (S_t nZ0 ringZ0 fiberZ0 yZ7 rZ9 oZ24) (qX 2 [3,5,14,15] [3,5,14,15,500000897,500000961] (SX_t nZ0 fiberZ0 yZ7 oZ24)) o) (S_t nZ0 ringZ0 fiberZ0 yZ7 rZ9 oZ24 sZ25):=by
 unfold M_t at h
 simp only [ZC,S_t,A34L5]
 obtain ⟨cZ26,h⟩ | ⟨cZ26,h⟩:=cond_s h
 · obtain ⟨uZ27,huZ27,h⟩:=bind_s h
   have huZ27g:=grd_s huZ27
   obtain ⟨yZ28,hyZ28,h⟩:=bind_s h
   obtain ⟨hyZ28a,hyZ28b⟩:=geti_s hyZ28
   obtain ⟨lZ29,hlZ29,h⟩:=bnd_s h
   have eZ30:Row.arr 1 [(.i yZ28:AV)]=Row.arr 1 (lZ29.map AV.i):=by rw [← hlZ29]; rfl
   have jjZ31:lZ29.length=1:=by rw [← hlZ29]; rfl
   obtain ⟨uZ32,huZ32,h⟩:=bind_s h
   have huZ32g:=grd_s huZ32
   obtain ⟨lZ33,hlZ33,h⟩:=bnd_s h
   have eZ34:sZ25.2.map AV.i++lZ29.map AV.i=lZ33.map AV.i:=by rw [← hlZ33,List.map_append]
   have eZ35:sZ25.2.length+1=lZ33.length:=by simp [← hlZ29,← hlZ33] <;> omega
   rw [eZ35] at huZ32g
   obtain ⟨uZ36,huZ36,h⟩:=bind_s h
   have huZ36g:=grd_s huZ36
   cases h
   exact ZL (ZA cZ26 (ZA huZ27g (ZA hyZ28a (ZA hyZ28b (ZA eZ30 (ZA jjZ31 (ZA huZ32g (ZA eZ34 (ZA eZ35 huZ36g))))))))) (ZA @S_t.eq_1 (ZA @SX_t.eq_1 (ZA hlZ29.symm (ZA hlZ33.symm jjZ31))))
 · cases h
   exact ZL cZ26 (ZA @S_t.eq_1 @SX_t.eq_1)
theorem w_cc (nZ0:TNetwork) (ringZ0:List Int) (fiberZ0:Int) {r:List TRoute×Bool} (h:M_cc nZ0 ringZ0 fiberZ0=some r):Ok Try.prog 34 [.agg [.lst .o 1 (nZ0.Nodes.map AV.z),.lst .o 4 (nZ0.Fibers.map (e_TFiber .o))],.lst .o 1 (ringZ0.map AV.i),.i fiberZ0] ((fun r=>.tup [.lst .u 2 (r.1.map (e_TRoute .u)),.b r.2]) r):=by
 refine ok_of_body hmix m34 rfl ?_
 unfold M_cc at h
 simp only [ZC,A34,V34,body_eq]
 obtain ⟨oZ4,hoZ4,h⟩:=bind_s h
 try refine ZF trivial ?_
 refine join_rule0 (sh:=(fun v=>⟨[(1,.lst .o 1 (ringZ0.map AV.i)),(3,.pt 3 0 0),(5,.pt 5 0 0),(31,.b v)],[(3,.var (.agg [.lst .o 1 (nZ0.Nodes.map AV.z),.lst .o 4 (nZ0.Fibers.map (e_TFiber .o))])),(5,.var (.i fiberZ0))]⟩)) (s:=oZ4) ?_ ?_
 · replace h:=hoZ4
   obtain ⟨rZ1,hrZ1,h⟩:=bind_s h
   refine ZF trivial ?_
   refine ZS trivial (w_dl _ _ hrZ1) ?_
   refine ZG ?_
   obtain ⟨cZ2,h⟩ | ⟨cZ2,h⟩:=cond_s h
   · cases h
     exact ZL cZ2 trivial
   · obtain ⟨rZ3,hrZ3,h⟩:=bind_s h
     refine ZF cZ2 ?_
     refine ZS cZ2 (w_ba _ _ _ hrZ3) ?_
     refine ZG ?_
     cases h
     exact ZL cZ2 trivial
 · simp only [ZC,A34R1]
   obtain ⟨cZ5,h⟩ | ⟨cZ5,h⟩:=cond_s h
   · cases h
     exact ZL cZ5 @V34.eq_1
   · obtain ⟨rZ6,hrZ6,h⟩:=bind_s h
     refine ZF cZ5 ?_
     refine ZU cZ5 (w_bv _ _ hrZ6) ?_
     refine ZG ?_
     obtain ⟨yZ7,hyZ7,h⟩:=bind_s h
     obtain ⟨hyZ7a,hyZ7b⟩:=geti_s hyZ7
     obtain ⟨rZ8,hrZ8,h⟩:=bind_s h
     refine ZF (ZA cZ5 (ZA hyZ7a hyZ7b)) ?_
     refine ZS (ZA cZ5 (ZA hyZ7a hyZ7b)) (w_bi _ _ hrZ8) ?_
     refine ZG ?_
     obtain ⟨rZ9,hrZ9,h⟩:=bind_s h
     refine ZF (ZA cZ5 (ZA hyZ7a hyZ7b)) ?_
     refine ZS (ZA cZ5 (ZA hyZ7a hyZ7b)) (w_bi _ _ hrZ9) ?_
     refine ZG ?_
     obtain ⟨oZ11,hoZ11,h⟩:=bind_s h
     try refine ZF (ZA cZ5 (ZA hyZ7a hyZ7b)) ?_
     refine join_rule0 (sh:=(fun v=>⟨[(1,.lst .o 1 (ringZ0.map AV.i)),(3,.pt 3 0 0),(5,.pt 5 0 0),(10,.pt 10 0 0),(11,.i (ringZ0.length:Int)),(12,.i rZ8),(13,.i rZ9),(58,.b v)],[(3,.var (.agg [.lst .o 1 (nZ0.Nodes.map AV.z),.lst .o 4 (nZ0.Fibers.map (e_TFiber .o))])),(5,.var (.i fiberZ0)),(10,.var (.agg [.i yZ7.A,.i yZ7.B,.i yZ7.Length,.i yZ7.Risk]))]⟩)) (s:=oZ11) ?_ ?_
     · replace h:=hoZ11
       obtain ⟨cZ10,h⟩ | ⟨cZ10,h⟩:=cond_s h
       · cases h
         exact ZL (ZA cZ5 (ZA hyZ7a (ZA hyZ7b cZ10))) trivial
       · cases h
         exact ZL (ZA cZ5 (ZA hyZ7a (ZA hyZ7b cZ10))) trivial
     · simp only [ZC,A34R2]
       obtain ⟨cZ12,h⟩ | ⟨cZ12,h⟩:=cond_s h
       · cases h
         exact ZL (ZA cZ5 (ZA hyZ7a (ZA hyZ7b cZ12))) @V34.eq_1
       · obtain ⟨oZ24,hoZ24,h⟩:=bind_s h
         try refine ZF (ZA cZ5 (ZA hyZ7a (ZA hyZ7b cZ12))) ?_
         refine join_rule0 (blk_rule0 (loop_rule (w_s nZ0 ringZ0 fiberZ0 yZ7 rZ8 rZ9) hoZ24 ?_)) ?_
         · exact ZK (ZA @S_s.eq_1 @SX_s.eq_1)
         · simp only [ZC,SX_s,A34R4]
           obtain ⟨oZ37,hoZ37,h⟩:=bind_s h
           try refine ZF (ZA cZ5 (ZA hyZ7a (ZA hyZ7b cZ12))) ?_
           refine join_rule0 (blk_rule0 (loop_rule (w_t nZ0 ringZ0 fiberZ0 yZ7 rZ9 oZ24) hoZ37 ?_)) ?_
           · exact ZK (ZA @S_t.eq_1 @SX_t.eq_1)
           · simp only [ZC,SX_t,A34R6]
             obtain ⟨lZ38,hlZ38,h⟩:=bnd_s h
             have eZ39:Row.arr 2 [(.agg [.i yZ7.A,.lst .u 1 (oZ24.map AV.i)]:AV),(.agg [.i yZ7.A,.lst .u 1 (oZ37.map AV.i)]:AV)]=Row.arr 2 (lZ38.map (e_TRoute .u)):=by rw [← hlZ38]; rfl
             have jjZ40:lZ38.length=2:=by rw [← hlZ38]; rfl
             obtain ⟨rZ41,hrZ41,h⟩:=bind_s h
             refine ZF (ZA cZ5 (ZA hyZ7a (ZA hyZ7b (ZA cZ12 (ZA eZ39 jjZ40))))) ?_
             refine ZW (ZA cZ5 (ZA hyZ7a (ZA hyZ7b (ZA cZ12 (ZA eZ39 jjZ40))))) (w_ee _ _ hrZ41) (h2:=by first | exact nm_ok [1000000000,1000000001] rfl (by decide +kernel) | exact nm_ok2 [1000000000,1000000001] [] rfl (by decide +kernel) ZQ | exact ZQ) (hk:=?_)
             refine ZG ?_
             obtain ⟨lZ42,hlZ42,h⟩:=bnd_s h
             have eZ43:sub (rZ41.2.2.1.map (e_TRoute .u)) rZ41.1 rZ41.2.1=lZ42.map (e_TRoute .u):=by rw [sub_mapT,hlZ42]
             obtain ⟨lZ44,hlZ44,h⟩:=bind_s h
             obtain ⟨lZ45,hlZ45,h⟩:=bnd_s h
             have eZ46:lZ45.length=rZ41.2.2.1.length:=by rw [← hlZ45,over_length]
             refine ZF (ZA cZ5 (ZA hyZ7a (ZA hyZ7b (ZA cZ12 (ZA eZ39 (ZA jjZ40 eZ43)))))) ?_
             refine call_m (by simp only [VS1,VS2,VS3,VS4,VS5,VS6,VT1,VT2,finM_ret,finM_nrm,decide_true,decide_false,List.nodup_nil,List.nodup_cons,oks_p,oks_m,oks_h,ne_eq,not_false_eq_true,Int.reduceEq,Int.reduceNe,true_and,false_and,Nat.reduceSub,Nat.reduceMul,↓reduceIte,reduceCtorEq,Nat.reduceEqDiff,Nat.reduceAdd,Nat.reduceLeDiff,Int.reduceLE,cZ5,hyZ7a,hyZ7b,cZ12,eZ39,jjZ40,eZ43]; exact (okM_sortS sort68 (e_TRoute .u) (shape_e_TRoute .u) (xs:=rZ41.2.2.1) (i0:=rZ41.1) (n:=rZ41.2.1) (ms:=lZ42) (cmp:=(fun x0 x1=>M_cb x0 x1 nZ0)) (C:=[.bp .o (.agg [.lst .o 1 (nZ0.Nodes.map AV.z),.lst .o 4 (nZ0.Fibers.map (e_TFiber .o))]) 0]) hlZ42 hlZ45 (by simp only [VS1,VS2,VS3,VS4,VS5,VS6,VT1,VT2,finM_ret,finM_nrm,decide_true,decide_false,List.nodup_nil,List.nodup_cons,oks_p,oks_m,oks_h,ne_eq,not_false_eq_true,Int.reduceEq,Int.reduceNe,true_and,false_and,Nat.reduceSub,Nat.reduceMul,↓reduceIte,reduceCtorEq,Nat.reduceEqDiff,Nat.reduceAdd,Nat.reduceLeDiff,Int.reduceLE,List.map_cons,List.map_nil]) rfl (by simp [Wf,VS1,VS2,VS3,VS4,VS5,VS6,VT1,VT2]) (by simp [VS1,VS2,VS3,VS4,VS5,VS6,VT1,VT2]) ((mtc_fn m69)) (fun _ _ _ hq=>by simp only [e_TRoute_nrm,VS1,VS2,VS3,VS4,VS5,VS6,VT1,VT2,finM_ret,finM_nrm,decide_true,decide_false,List.nodup_nil,List.nodup_cons,oks_p,oks_m,oks_h,ne_eq,not_false_eq_true,Int.reduceEq,Int.reduceNe,true_and,false_and,Nat.reduceSub,Nat.reduceMul,↓reduceIte,reduceCtorEq,Nat.reduceEqDiff,Nat.reduceAdd,Nat.reduceLeDiff,Int.reduceLE]; exact w_cb _ _ _ hq) hlZ44)) (by simp [VS1,VS2,VS3,VS4,VS5,VS6,VT1,VT2]) (by first | exact nm_ok [1000000000,1000000001] rfl (by decide +kernel) | simp [VS1,VS2,VS3,VS4,VS5,VS6,VT1,VT2]) ?_
             refine ZG ?_
             obtain ⟨lZ47,hlZ47,h⟩:=bnd_s h
             have eZ48:sub (lZ45.map (e_TRoute .u)) rZ41.1 rZ41.2.1=lZ47.map (e_TRoute .u):=by rw [sub_mapT,hlZ47]
             cases h
             exact ZL (ZA cZ5 (ZA hyZ7a (ZA hyZ7b (ZA cZ12 (ZA eZ39 (ZA jjZ40 (ZA eZ43 eZ48))))))) (ZA @V34.eq_1 (ZA hlZ38.symm (ZA eZ46 jjZ40)))
def S_ai (aZ0:List Int) (bZ0:List Int) (v:Int):St:=⟨[(0,.lst .o 1 (aZ0.map AV.i)),(1,.lst .o 1 (bZ0.map AV.i)),(5,.i v)],[]⟩
def SX_ai (v:Unit):St:=⟨[],[]⟩
theorem w_ai (aZ0:List Int) (bZ0:List Int) (sZ2:Int) (o:Int ⊕ (Unit ⊕ Bool)) (h:M_ai aZ0 bZ0 sZ2=some o):AWP (OkS Try.prog) A16L1 (qL [0,1,5] [] (S_ai aZ0 bZ0) (qS (qX 0 [] [] (SX_ai)) (qR V16 (fun r=>.b r))) o) (S_ai aZ0 bZ0 sZ2):=by
 unfold M_ai at h
 simp only [ZC,S_ai,A16L1]
 obtain ⟨cZ3,h⟩ | ⟨cZ3,h⟩:=cond_s h
 · obtain ⟨yZ4,hyZ4,h⟩:=bind_s h
   obtain ⟨hyZ4a,hyZ4b⟩:=geti_s hyZ4
   obtain ⟨yZ5,hyZ5,h⟩:=bind_s h
   obtain ⟨hyZ5a,hyZ5b⟩:=geti_s hyZ5
   obtain ⟨cZ6,h⟩ | ⟨cZ6,h⟩:=cond_s h
   · cases h
     exact ZL (ZA cZ3 (ZA hyZ4a (ZA hyZ4b (ZA hyZ5a (ZA hyZ5b cZ6))))) @V16.eq_1
   · cases h
     exact ZL (ZA cZ3 (ZA hyZ4a (ZA hyZ4b (ZA hyZ5a (ZA hyZ5b cZ6))))) (ZA @S_ai.eq_1 @SX_ai.eq_1)
 · cases h
   exact ZL cZ3 (ZA @S_ai.eq_1 @SX_ai.eq_1)
theorem w_bs (aZ0:List Int) (bZ0:List Int) {r:Bool} (h:M_bs aZ0 bZ0=some r):Ok Try.prog 16 [.lst .o 1 (aZ0.map AV.i),.lst .o 1 (bZ0.map AV.i)] ((fun r=>.b r) r):=by
 refine ok_of_body hmix m16 rfl ?_
 unfold M_bs at h
 simp only [ZC,A16,V16,body_eq]
 obtain ⟨cZ1,h⟩ | ⟨cZ1,h⟩:=cond_s h
 · cases h
   exact ZL cZ1 @V16.eq_1
 · obtain ⟨oZ7,hoZ7,h⟩:=bind_s h
   try refine ZF cZ1 ?_
   refine join_rule (o:=oZ7) (blk_rule sideR (loop_rule (w_ai aZ0 bZ0) hoZ7 ?_)) (fun vZ8 hv=>?_) (fun xZ9 hv e τ hne hq=>?_)
   · exact ZK (ZA @S_ai.eq_1 @SX_ai.eq_1)
   · subst hv
     simp only [] at h
     simp only [ZC,SX_ai,A16R2]
     cases h
     exact ZL cZ1 @V16.eq_1
   · subst hv
     simp only [] at h
     obtain ⟨rfl,qZ10⟩:=hq
     cases h
     exact qZ10
theorem w_ch (aZ0:TRoute) (bZ0:TRoute) {r:Bool} (h:M_ch aZ0 bZ0=some r):Ok Try.prog 71 [.agg [.i aZ0.Start,.lst .o 1 (aZ0.Fibers.map AV.i)],.agg [.i bZ0.Start,.lst .o 1 (bZ0.Fibers.map AV.i)]] ((fun r=>.b r) r):=by
 refine ok_of_body hmix m71 rfl ?_
 unfold M_ch at h
 simp only [ZC,A71,V71,body_eq]
 obtain ⟨cZ1,h⟩ | ⟨cZ1,h⟩:=cond_s h
 · cases h
   exact ZL cZ1 @V71.eq_1
 · obtain ⟨rZ2,hrZ2,h⟩:=bind_s h
   refine ZF cZ1 ?_
   refine ZS cZ1 (w_bs _ _ hrZ2) ?_
   refine ZG ?_
   obtain ⟨cZ3,h⟩ | ⟨cZ3,h⟩:=cond_s h
   · cases h
     exact ZL (ZA cZ1 cZ3) @V71.eq_1
   · cases h
     exact ZL (ZA cZ1 cZ3) @V71.eq_1
def S_aj (aZ0:List TRoute) (bZ0:List TRoute) (v:Int):St:=⟨[(0,.lst .o 2 (aZ0.map (e_TRoute .o))),(1,.lst .o 2 (bZ0.map (e_TRoute .o))),(5,.i v)],[]⟩
def SX_aj (v:Unit):St:=⟨[],[]⟩
theorem w_aj (aZ0:List TRoute) (bZ0:List TRoute) (sZ2:Int) (o:Int ⊕ (Unit ⊕ Bool)) (h:M_aj aZ0 bZ0 sZ2=some o):AWP (OkS Try.prog) A35L1 (qL [0,1,5] [] (S_aj aZ0 bZ0) (qS (qX 0 [] [] (SX_aj)) (qR V35 (fun r=>.b r))) o) (S_aj aZ0 bZ0 sZ2):=by
 unfold M_aj at h
 simp only [ZC,S_aj,A35L1]
 obtain ⟨cZ3,h⟩ | ⟨cZ3,h⟩:=cond_s h
 · obtain ⟨yZ4,hyZ4,h⟩:=bind_s h
   obtain ⟨hyZ4a,hyZ4b⟩:=geti_s hyZ4
   obtain ⟨yZ5,hyZ5,h⟩:=bind_s h
   obtain ⟨hyZ5a,hyZ5b⟩:=geti_s hyZ5
   obtain ⟨rZ6,hrZ6,h⟩:=bind_s h
   refine ZF (ZA cZ3 (ZA hyZ4a (ZA hyZ4b (ZA hyZ5a hyZ5b)))) ?_
   refine ZS (ZA cZ3 (ZA hyZ4a (ZA hyZ4b (ZA hyZ5a hyZ5b)))) (w_ch _ _ hrZ6) ?_
   refine ZG ?_
   obtain ⟨cZ7,h⟩ | ⟨cZ7,h⟩:=cond_s h
   · cases h
     exact ZL (ZA cZ3 (ZA hyZ4a (ZA hyZ4b (ZA hyZ5a (ZA hyZ5b cZ7))))) @V35.eq_1
   · cases h
     exact ZL (ZA cZ3 (ZA hyZ4a (ZA hyZ4b (ZA hyZ5a (ZA hyZ5b cZ7))))) (ZA @S_aj.eq_1 @SX_aj.eq_1)
 · cases h
   exact ZL cZ3 (ZA @S_aj.eq_1 @SX_aj.eq_1)
theorem w_bm (aZ0:List TRoute) (bZ0:List TRoute) {r:Bool} (h:M_bm aZ0 bZ0=some r):Ok Try.prog 35 [.lst .o 2 (aZ0.map (e_TRoute .o)),.lst .o 2 (bZ0.map (e_TRoute .o))] ((fun r=>.b r) r):=by
 refine ok_of_body hmix m35 rfl ?_
 unfold M_bm at h
 simp only [ZC,A35,V35,body_eq]
 obtain ⟨cZ1,h⟩ | ⟨cZ1,h⟩:=cond_s h
 · cases h
   exact ZL cZ1 @V35.eq_1
 · obtain ⟨oZ8,hoZ8,h⟩:=bind_s h
   try refine ZF cZ1 ?_
   refine join_rule (o:=oZ8) (blk_rule sideR (loop_rule (w_aj aZ0 bZ0) hoZ8 ?_)) (fun vZ9 hv=>?_) (fun xZ10 hv e τ hne hq=>?_)
   · exact ZK (ZA @S_aj.eq_1 @SX_aj.eq_1)
   · subst hv
     simp only [] at h
     simp only [ZC,SX_aj,A35R2]
     cases h
     exact ZL cZ1 @V35.eq_1
   · subst hv
     simp only [] at h
     obtain ⟨rfl,qZ11⟩:=hq
     cases h
     exact qZ11
def S_ae (aZ0:List ByteArray) (bZ0:List ByteArray) (v:Int):St:=⟨[(0,.lst .o 1 (aZ0.map AV.z)),(1,.lst .o 1 (bZ0.map AV.z)),(5,.i v)],[]⟩
def SX_ae (v:Unit):St:=⟨[],[]⟩
theorem w_ae (aZ0:List ByteArray) (bZ0:List ByteArray) (sZ2:Int) (o:Int ⊕ (Unit ⊕ Bool)) (h:M_ae aZ0 bZ0 sZ2=some o):AWP (OkS Try.prog) A44L1 (qL [0,1,5] [] (S_ae aZ0 bZ0) (qS (qX 0 [] [] (SX_ae)) (qR V44 (fun r=>.b r))) o) (S_ae aZ0 bZ0 sZ2):=by
 unfold M_ae at h
 simp only [ZC,S_ae,A44L1]
 obtain ⟨cZ3,h⟩ | ⟨cZ3,h⟩:=cond_s h
 · obtain ⟨yZ4,hyZ4,h⟩:=bind_s h
   obtain ⟨hyZ4a,hyZ4b⟩:=geti_s hyZ4
   obtain ⟨yZ5,hyZ5,h⟩:=bind_s h
   obtain ⟨hyZ5a,hyZ5b⟩:=geti_s hyZ5
   obtain ⟨cZ6,h⟩ | ⟨cZ6,h⟩:=cond_s h
   · cases h
     exact ZL (ZA cZ3 (ZA hyZ4a (ZA hyZ4b (ZA hyZ5a (ZA hyZ5b cZ6))))) @V44.eq_1
   · cases h
     exact ZL (ZA cZ3 (ZA hyZ4a (ZA hyZ4b (ZA hyZ5a (ZA hyZ5b cZ6))))) (ZA @S_ae.eq_1 @SX_ae.eq_1)
 · cases h
   exact ZL cZ3 (ZA @S_ae.eq_1 @SX_ae.eq_1)
theorem w_cv (aZ0:List ByteArray) (bZ0:List ByteArray) {r:Bool} (h:M_cv aZ0 bZ0=some r):Ok Try.prog 44 [.lst .o 1 (aZ0.map AV.z),.lst .o 1 (bZ0.map AV.z)] ((fun r=>.b r) r):=by
 refine ok_of_body hmix m44 rfl ?_
 unfold M_cv at h
 simp only [ZC,A44,V44,body_eq]
 obtain ⟨cZ1,h⟩ | ⟨cZ1,h⟩:=cond_s h
 · cases h
   exact ZL cZ1 @V44.eq_1
 · obtain ⟨oZ7,hoZ7,h⟩:=bind_s h
   try refine ZF cZ1 ?_
   refine join_rule (o:=oZ7) (blk_rule sideR (loop_rule (w_ae aZ0 bZ0) hoZ7 ?_)) (fun vZ8 hv=>?_) (fun xZ9 hv e τ hne hq=>?_)
   · exact ZK (ZA @S_ae.eq_1 @SX_ae.eq_1)
   · subst hv
     simp only [] at h
     simp only [ZC,SX_ae,A44R2]
     cases h
     exact ZL cZ1 @V44.eq_1
   · subst hv
     simp only [] at h
     obtain ⟨rfl,qZ10⟩:=hq
     cases h
     exact qZ10
theorem w_cg (aZ0:TFiber) (bZ0:TFiber) {r:Bool} (h:M_cg aZ0 bZ0=some r):Ok Try.prog 80 [.agg [.i aZ0.A,.i aZ0.B,.i aZ0.Length,.i aZ0.Risk],.agg [.i bZ0.A,.i bZ0.B,.i bZ0.Length,.i bZ0.Risk]] ((fun r=>.b r) r):=by
 refine ok_of_body hmix m80 rfl ?_
 unfold M_cg at h
 simp only [ZC,A80,V80,body_eq]
 obtain ⟨cZ1,h⟩ | ⟨cZ1,h⟩:=cond_s h
 · cases h
   exact ZL cZ1 @V80.eq_1
 · obtain ⟨cZ2,h⟩ | ⟨cZ2,h⟩:=cond_s h
   · cases h
     exact ZL (ZA cZ1 cZ2) @V80.eq_1
   · obtain ⟨cZ3,h⟩ | ⟨cZ3,h⟩:=cond_s h
     · cases h
       exact ZL (ZA cZ1 (ZA cZ2 cZ3)) @V80.eq_1
     · obtain ⟨cZ4,h⟩ | ⟨cZ4,h⟩:=cond_s h
       · cases h
         exact ZL (ZA cZ1 (ZA cZ2 (ZA cZ3 cZ4))) @V80.eq_1
       · cases h
         exact ZL (ZA cZ1 (ZA cZ2 (ZA cZ3 cZ4))) @V80.eq_1
def S_ag (aZ0:List TFiber) (bZ0:List TFiber) (v:Int):St:=⟨[(0,.lst .o 4 (aZ0.map (e_TFiber .o))),(1,.lst .o 4 (bZ0.map (e_TFiber .o))),(5,.i v)],[]⟩
def SX_ag (v:Unit):St:=⟨[],[]⟩
theorem w_ag (aZ0:List TFiber) (bZ0:List TFiber) (sZ2:Int) (o:Int ⊕ (Unit ⊕ Bool)) (h:M_ag aZ0 bZ0 sZ2=some o):AWP (OkS Try.prog) A45L1 (qL [0,1,5] [] (S_ag aZ0 bZ0) (qS (qX 0 [] [] (SX_ag)) (qR V45 (fun r=>.b r))) o) (S_ag aZ0 bZ0 sZ2):=by
 unfold M_ag at h
 simp only [ZC,S_ag,A45L1]
 obtain ⟨cZ3,h⟩ | ⟨cZ3,h⟩:=cond_s h
 · obtain ⟨yZ4,hyZ4,h⟩:=bind_s h
   obtain ⟨hyZ4a,hyZ4b⟩:=geti_s hyZ4
   obtain ⟨yZ5,hyZ5,h⟩:=bind_s h
   obtain ⟨hyZ5a,hyZ5b⟩:=geti_s hyZ5
   obtain ⟨rZ6,hrZ6,h⟩:=bind_s h
   refine ZF (ZA cZ3 (ZA hyZ4a (ZA hyZ4b (ZA hyZ5a hyZ5b)))) ?_
   refine ZS (ZA cZ3 (ZA hyZ4a (ZA hyZ4b (ZA hyZ5a hyZ5b)))) (w_cg _ _ hrZ6) ?_
   refine ZG ?_
   obtain ⟨cZ7,h⟩ | ⟨cZ7,h⟩:=cond_s h
   · cases h
     exact ZL (ZA cZ3 (ZA hyZ4a (ZA hyZ4b (ZA hyZ5a (ZA hyZ5b cZ7))))) @V45.eq_1
   · cases h
     exact ZL (ZA cZ3 (ZA hyZ4a (ZA hyZ4b (ZA hyZ5a (ZA hyZ5b cZ7))))) (ZA @S_ag.eq_1 @SX_ag.eq_1)
 · cases h
   exact ZL cZ3 (ZA @S_ag.eq_1 @SX_ag.eq_1)
theorem w_cy (aZ0:List TFiber) (bZ0:List TFiber) {r:Bool} (h:M_cy aZ0 bZ0=some r):Ok Try.prog 45 [.lst .o 4 (aZ0.map (e_TFiber .o)),.lst .o 4 (bZ0.map (e_TFiber .o))] ((fun r=>.b r) r):=by
 refine ok_of_body hmix m45 rfl ?_
 unfold M_cy at h
 simp only [ZC,A45,V45,body_eq]
 obtain ⟨cZ1,h⟩ | ⟨cZ1,h⟩:=cond_s h
 · cases h
   exact ZL cZ1 @V45.eq_1
 · obtain ⟨oZ8,hoZ8,h⟩:=bind_s h
   try refine ZF cZ1 ?_
   refine join_rule (o:=oZ8) (blk_rule sideR (loop_rule (w_ag aZ0 bZ0) hoZ8 ?_)) (fun vZ9 hv=>?_) (fun xZ10 hv e τ hne hq=>?_)
   · exact ZK (ZA @S_ag.eq_1 @SX_ag.eq_1)
   · subst hv
     simp only [] at h
     simp only [ZC,SX_ag,A45R2]
     cases h
     exact ZL cZ1 @V45.eq_1
   · subst hv
     simp only [] at h
     obtain ⟨rfl,qZ11⟩:=hq
     cases h
     exact qZ11
theorem w_da (aZ0:TNetwork) (bZ0:TNetwork) {r:Bool} (h:M_da aZ0 bZ0=some r):Ok Try.prog 15 [.agg [.lst .o 1 (aZ0.Nodes.map AV.z),.lst .o 4 (aZ0.Fibers.map (e_TFiber .o))],.agg [.lst .o 1 (bZ0.Nodes.map AV.z),.lst .o 4 (bZ0.Fibers.map (e_TFiber .o))]] ((fun r=>.b r) r):=by
 refine ok_of_body hmix m15 rfl ?_
 unfold M_da at h
 simp only [ZC,A15,V15,body_eq]
 obtain ⟨rZ1,hrZ1,h⟩:=bind_s h
 refine ZF trivial ?_
 refine ZS trivial (w_cv _ _ hrZ1) ?_
 refine ZG ?_
 obtain ⟨cZ2,h⟩ | ⟨cZ2,h⟩:=cond_s h
 · cases h
   exact ZL cZ2 @V15.eq_1
 · obtain ⟨rZ3,hrZ3,h⟩:=bind_s h
   refine ZF cZ2 ?_
   refine ZS cZ2 (w_cy _ _ hrZ3) ?_
   refine ZG ?_
   obtain ⟨cZ4,h⟩ | ⟨cZ4,h⟩:=cond_s h
   · cases h
     exact ZL (ZA cZ2 cZ4) @V15.eq_1
   · cases h
     exact ZL (ZA cZ2 cZ4) @V15.eq_1
def S_ab (v:Int×ByteArray):St:=⟨[(0,.i v.1),(3,.z v.2)],[]⟩
def SX_ab (v:ByteArray):St:=⟨[(3,.z v)],[]⟩
theorem w_ab (sZ2:Int×ByteArray) (o:(Int×ByteArray) ⊕ ByteArray) (h:M_ab sZ2=some o):AWP (OkS Try.prog) A89L1 (qL [0,3] [] (S_ab) (qX 0 [3] [] (SX_ab)) o) (S_ab sZ2):=by
 unfold M_ab at h
 simp only [ZC,S_ab,A89L1]
 obtain ⟨cZ3,h⟩ | ⟨cZ3,h⟩:=cond_s h
 · obtain ⟨uZ4,huZ4,h⟩:=bind_s h
   have huZ4g:=grd_s huZ4
   obtain ⟨lZ5,hlZ5,h⟩:=bnd_s h
   have eZ6:Row.arr 1 [(.sc (.int .u8 (IntKind.wrap .u8 (IntKind.wrap .i64 (48+(Int.tmod sZ2.1 10))))):AV)]=Row.arr 1 (lZ5.map AV.u8):=by rw [← hlZ5]; rfl
   have jjZ7:lZ5.length=1:=by rw [← hlZ5]; rfl
   have nZ8:sub (lZ5.map AV.u8) 0 1=lZ5.map AV.u8:=sub_n _ (by simp [← hlZ5])
   obtain ⟨uZ9,huZ9,h⟩:=bind_s h
   have huZ9g:=grd_s huZ9
   obtain ⟨uZ10,huZ10,h⟩:=bind_s h
   have huZ10g:=grd_s huZ10
   cases h
   exact ZL (ZA cZ3 (ZA huZ4g (ZA eZ6 (ZA jjZ7 (ZA nZ8 (ZA huZ9g huZ10g)))))) (ZA @S_ab.eq_1 (ZA @SX_ab.eq_1 (ZA hlZ5.symm jjZ7)))
 · cases h
   exact ZL cZ3 (ZA @S_ab.eq_1 @SX_ab.eq_1)
theorem w_br (kZ0:Int) {r:ByteArray} (h:M_br kZ0=some r):Ok Try.prog 89 [.i kZ0] ((fun r=>.z r) r):=by
 refine ok_of_body hmix m89 rfl ?_
 unfold M_br at h
 simp only [ZC,A89,V89,body_eq]
 obtain ⟨cZ1,h⟩ | ⟨cZ1,h⟩:=cond_s h
 · cases h
   exact ZL cZ1 @V89.eq_1
 · obtain ⟨oZ11,hoZ11,h⟩:=bind_s h
   try refine ZF cZ1 ?_
   refine join_rule0 (blk_rule0 (loop_rule (w_ab) hoZ11 ?_)) ?_
   · exact ZK (ZA @S_ab.eq_1 @SX_ab.eq_1)
   · simp only [ZC,SX_ab,A89R2]
     obtain ⟨uZ12,huZ12,h⟩:=bind_s h
     have huZ12g:=grd_s huZ12
     cases h
     exact ZL (ZA cZ1 huZ12g) @V89.eq_1
def S_ak (v:Int×Int×List ByteArray):St:=⟨[(0,.sl 1000000000 0 v.2.2.length),(1,.i v.1),(5,.i v.2.1)],[(1000000000,.arr 1 (v.2.2.map AV.z))]⟩
def SX_ak (v:Int×List ByteArray):St:=⟨[(1,.i v.1)],[(1000000000,.arr 1 (v.2.map AV.z))]⟩
theorem w_ak (sZ1:Int×Int×List ByteArray) (o:(Int×Int×List ByteArray) ⊕ (Int×List ByteArray)) (h:M_ak sZ1=some o):AWP (OkS Try.prog) A49M1L1 (qL [0,1,5] [1000000000] (S_ak) (qX 0 [1] [1000000000] (SX_ak)) o) (S_ak sZ1):=by
 unfold M_ak at h
 simp only [ZC,S_ak,A49M1L1]
 obtain ⟨cZ2,h⟩ | ⟨cZ2,h⟩:=cond_s h
 · obtain ⟨rZ3,hrZ3,h⟩:=bind_s h
   refine ZF cZ2 ?_
   refine ZS cZ2 (w_br _ hrZ3) ?_
   refine ZG ?_
   obtain ⟨kZ4,hkZ4,h⟩:=bind_s h
   obtain ⟨hkZ4a,hkZ4b⟩:=grd_s hkZ4
   obtain ⟨yZ5,hyZ5,h⟩:=bind_s h
   obtain ⟨lZ6,hlZ6,h⟩:=bnd_s h
   have eZ7:(sZ1.2.2.map AV.z).set (Int.toNat sZ1.2.1) (.z rZ3)=lZ6.map AV.z:=by rw [← hlZ6,List.map_set]
   cases h
   exact ZL (ZA cZ2 (ZA hkZ4a (ZA hkZ4b (ZA hyZ5 eZ7)))) (ZA @S_ak.eq_1 (ZA @SX_ak.eq_1 hlZ6.symm))
 · cases h
   exact ZL cZ2 (ZA @S_ak.eq_1 @SX_ak.eq_1)
theorem w_db (aaZ0:Int) (abZ0:List ByteArray) {r:Int×List ByteArray} (h:M_db aaZ0 abZ0=some r):OkM Try.prog 49 [.sl 1000000000 0 abZ0.length,.i aaZ0] [(1000000000,.arr 1 (abZ0.map AV.z))] ((fun (r:Int×List ByteArray)=>.i r.1) r) ((fun (r:Int×List ByteArray)=>[(1000000000,.arr 1 (r.2.map AV.z))]) r):=by
 refine okM_of_body (lr:=[1000000000]) hmix m49M1 rfl rfl ?_
 unfold M_db at h
 simp only [ZC,A49M1,V49M1]
 obtain ⟨oZ8,hoZ8,h⟩:=bind_s h
 try refine ZF trivial ?_
 refine join_rule0 (blk_rule0 (loop_rule (w_ak) hoZ8 ?_)) ?_
 · exact ZK (ZA @S_ak.eq_1 @SX_ak.eq_1)
 · simp only [ZC,SX_ak,A49M1R2]
   cases h
   exact ZL trivial @V49M1.eq_1
def S_al (v:Int×Int×List TFiber):St:=⟨[(0,.sl 1000000000 0 v.2.2.length),(1,.i v.1),(5,.i v.2.1)],[(1000000000,.arr 4 (v.2.2.map (e_TFiber .u)))]⟩
def SX_al (v:Int×List TFiber):St:=⟨[(1,.i v.1)],[(1000000000,.arr 4 (v.2.map (e_TFiber .u)))]⟩
theorem w_al (sZ1:Int×Int×List TFiber) (o:(Int×Int×List TFiber) ⊕ (Int×List TFiber)) (h:M_al sZ1=some o):AWP (OkS Try.prog) A50M1L1 (qL [0,1,5] [1000000000] (S_al) (qX 0 [1] [1000000000] (SX_al)) o) (S_al sZ1):=by
 unfold M_al at h
 simp only [ZC,S_al,A50M1L1]
 obtain ⟨cZ2,h⟩ | ⟨cZ2,h⟩:=cond_s h
 · obtain ⟨kZ3,hkZ3,h⟩:=bind_s h
   obtain ⟨hkZ3a,hkZ3b⟩:=grd_s hkZ3
   obtain ⟨yZ4,hyZ4,h⟩:=bind_s h
   obtain ⟨lZ5,hlZ5,h⟩:=bnd_s h
   have eZ6:(sZ1.2.2.map (e_TFiber .u)).set (Int.toNat sZ1.2.1) (.agg [.i sZ1.1,.i yZ4.B,.i yZ4.Length,.i yZ4.Risk])=lZ5.map (e_TFiber .u):=by rw [← hlZ5,List.map_set]; rfl
   obtain ⟨yZ7,hyZ7,h⟩:=bind_s h
   obtain ⟨lZ8,hlZ8,h⟩:=bnd_s h
   have eZ9:(lZ5.map (e_TFiber .u)).set (Int.toNat sZ1.2.1) (.agg [.i yZ7.A,.i (IntKind.wrap .i64 (sZ1.1+1)),.i yZ7.Length,.i yZ7.Risk])=lZ8.map (e_TFiber .u):=by rw [← hlZ8,List.map_set]; rfl
   obtain ⟨yZ10,hyZ10,h⟩:=bind_s h
   obtain ⟨lZ11,hlZ11,h⟩:=bnd_s h
   have eZ12:(lZ8.map (e_TFiber .u)).set (Int.toNat sZ1.2.1) (.agg [.i yZ10.A,.i yZ10.B,.i (IntKind.wrap .i64 ((IntKind.wrap .i64 (sZ1.1+1))+1)),.i yZ10.Risk])=lZ11.map (e_TFiber .u):=by rw [← hlZ11,List.map_set]; rfl
   obtain ⟨yZ13,hyZ13,h⟩:=bind_s h
   obtain ⟨lZ14,hlZ14,h⟩:=bnd_s h
   have eZ15:(lZ11.map (e_TFiber .u)).set (Int.toNat sZ1.2.1) (.agg [.i yZ13.A,.i yZ13.B,.i yZ13.Length,.i (IntKind.wrap .i64 ((IntKind.wrap .i64 ((IntKind.wrap .i64 (sZ1.1+1))+1))+1))])=lZ14.map (e_TFiber .u):=by rw [← hlZ14,List.map_set]; rfl
   cases h
   exact ZL (ZA cZ2 (ZA hkZ3a (ZA hkZ3b (ZA hyZ4 (ZA eZ6 (ZA hyZ7 (ZA eZ9 (ZA hyZ10 (ZA eZ12 (ZA hyZ13 eZ15)))))))))) (ZA @S_al.eq_1 (ZA @SX_al.eq_1 (ZA hlZ5.symm (ZA hlZ8.symm (ZA hlZ11.symm hlZ14.symm)))))
 · cases h
   exact ZL cZ2 (ZA @S_al.eq_1 @SX_al.eq_1)
theorem w_dc (aaZ0:Int) (abZ0:List TFiber) {r:Int×List TFiber} (h:M_dc aaZ0 abZ0=some r):OkM Try.prog 50 [.sl 1000000000 0 abZ0.length,.i aaZ0] [(1000000000,.arr 4 (abZ0.map (e_TFiber .u)))] ((fun (r:Int×List TFiber)=>.i r.1) r) ((fun (r:Int×List TFiber)=>[(1000000000,.arr 4 (r.2.map (e_TFiber .u)))]) r):=by
 refine okM_of_body (lr:=[1000000000]) hmix m50M1 rfl rfl ?_
 unfold M_dc at h
 simp only [ZC,A50M1,V50M1]
 obtain ⟨oZ16,hoZ16,h⟩:=bind_s h
 try refine ZF trivial ?_
 refine join_rule0 (blk_rule0 (loop_rule (w_al) hoZ16 ?_)) ?_
 · exact ZK (ZA @S_al.eq_1 @SX_al.eq_1)
 · simp only [ZC,SX_al,A50M1R2]
   cases h
   exact ZL trivial @V50M1.eq_1
theorem w_dd (aaZ0:Int) (abZ0:List ByteArray) (acZ0:List TFiber) {r:Int×List ByteArray×List TFiber} (h:M_dd aaZ0 abZ0 acZ0=some r):OkM Try.prog 19 [.agg [.sl 1000000000 0 abZ0.length,.sl 1000000001 0 acZ0.length],.i aaZ0] [(1000000000,.arr 1 (abZ0.map AV.z)),(1000000001,.arr 4 (acZ0.map (e_TFiber .u)))] ((fun (r:Int×List ByteArray×List TFiber)=>.i r.1) r) ((fun (r:Int×List ByteArray×List TFiber)=>[(1000000000,.arr 1 (r.2.1.map AV.z)),(1000000001,.arr 4 (r.2.2.map (e_TFiber .u)))]) r):=by
 refine okM_of_body (lr:=[1000000000,1000000001]) hmix m19M1 rfl rfl ?_
 unfold M_dd at h
 simp only [ZC,A19M1,V19M1]
 obtain ⟨rZ1,hrZ1,h⟩:=bind_s h
 refine ZF trivial ?_
 refine ZW trivial (w_db _ _ hrZ1) (h2:=by first | exact nm_ok [1000000000] rfl (by decide +kernel) | exact nm_ok2 [1000000000] [] rfl (by decide +kernel) ZQ | exact ZQ) (hk:=?_)
 refine ZG ?_
 obtain ⟨rZ2,hrZ2,h⟩:=bind_s h
 refine ZF trivial ?_
 refine ZW trivial (w_dc _ _ hrZ2) (h2:=by first | exact nm_ok [1000000000] rfl (by decide +kernel) | exact nm_ok2 [1000000000] [] rfl (by decide +kernel) ZQ | exact ZQ) (hk:=?_)
 refine ZG ?_
 cases h
 exact ZL trivial @V19M1.eq_1
def S_am (v:Int×Int×List Int):St:=⟨[(0,.sl 1000000000 0 v.2.2.length),(1,.i v.1),(5,.i v.2.1)],[(1000000000,.arr 1 (v.2.2.map AV.i))]⟩
def SX_am (v:Int×List Int):St:=⟨[(1,.i v.1)],[(1000000000,.arr 1 (v.2.map AV.i))]⟩
theorem w_am (sZ1:Int×Int×List Int) (o:(Int×Int×List Int) ⊕ (Int×List Int)) (h:M_am sZ1=some o):AWP (OkS Try.prog) A20M1L1 (qL [0,1,5] [1000000000] (S_am) (qX 0 [1] [1000000000] (SX_am)) o) (S_am sZ1):=by
 unfold M_am at h
 simp only [ZC,S_am,A20M1L1]
 obtain ⟨cZ2,h⟩ | ⟨cZ2,h⟩:=cond_s h
 · obtain ⟨kZ3,hkZ3,h⟩:=bind_s h
   obtain ⟨hkZ3a,hkZ3b⟩:=grd_s hkZ3
   obtain ⟨yZ4,hyZ4,h⟩:=bind_s h
   obtain ⟨lZ5,hlZ5,h⟩:=bnd_s h
   have eZ6:(sZ1.2.2.map AV.i).set (Int.toNat sZ1.2.1) (.i sZ1.1)=lZ5.map AV.i:=by rw [← hlZ5,List.map_set]
   cases h
   exact ZL (ZA cZ2 (ZA hkZ3a (ZA hkZ3b (ZA hyZ4 eZ6)))) (ZA @S_am.eq_1 (ZA @SX_am.eq_1 hlZ5.symm))
 · cases h
   exact ZL cZ2 (ZA @S_am.eq_1 @SX_am.eq_1)
theorem w_bt (aaZ0:Int) (abZ0:List Int) {r:Int×List Int} (h:M_bt aaZ0 abZ0=some r):OkM Try.prog 20 [.sl 1000000000 0 abZ0.length,.i aaZ0] [(1000000000,.arr 1 (abZ0.map AV.i))] ((fun (r:Int×List Int)=>.i r.1) r) ((fun (r:Int×List Int)=>[(1000000000,.arr 1 (r.2.map AV.i))]) r):=by
 refine okM_of_body (lr:=[1000000000]) hmix m20M1 rfl rfl ?_
 unfold M_bt at h
 simp only [ZC,A20M1,V20M1]
 obtain ⟨oZ7,hoZ7,h⟩:=bind_s h
 try refine ZF trivial ?_
 refine join_rule0 (blk_rule0 (loop_rule (w_am) hoZ7 ?_)) ?_
 · exact ZK (ZA @S_am.eq_1 @SX_am.eq_1)
 · simp only [ZC,SX_am,A20M1R2]
   cases h
   exact ZL trivial @V20M1.eq_1
def S_ao (v:Int×Int×List TRoute):St:=⟨[(0,.sl 1000000000 0 v.2.2.length),(1,.i v.1),(5,.i v.2.1)],[(1000000000,.arr 2 (v.2.2.map (e_TRoute .u)))]⟩
def SX_ao (v:Int×List TRoute):St:=⟨[(1,.i v.1)],[(1000000000,.arr 2 (v.2.map (e_TRoute .u)))]⟩
theorem w_ao (sZ1:Int×Int×List TRoute) (o:(Int×Int×List TRoute) ⊕ (Int×List TRoute)) (h:M_ao sZ1=some o):AWP (OkS Try.prog) A36M1L1 (qL [0,1,5] [1000000000] (S_ao) (qX 0 [1] [1000000000] (SX_ao)) o) (S_ao sZ1):=by
 unfold M_ao at h
 simp only [ZC,S_ao,A36M1L1]
 obtain ⟨cZ2,h⟩ | ⟨cZ2,h⟩:=cond_s h
 · obtain ⟨kZ3,hkZ3,h⟩:=bind_s h
   obtain ⟨hkZ3a,hkZ3b⟩:=grd_s hkZ3
   obtain ⟨yZ4,hyZ4,h⟩:=bind_s h
   obtain ⟨lZ5,hlZ5,h⟩:=bnd_s h
   have eZ6:(sZ1.2.2.map (e_TRoute .u)).set (Int.toNat sZ1.2.1) (.agg [.i sZ1.1,.lst .u 1 (yZ4.Fibers.map AV.i)])=lZ5.map (e_TRoute .u):=by rw [← hlZ5,List.map_set]; rfl
   obtain ⟨yZ7,hyZ7,h⟩:=bind_s h
   obtain ⟨rZ8,hrZ8,h⟩:=bind_s h
   obtain ⟨lZ9,hlZ9,h⟩:=bnd_s h
   have eZ10:(lZ5.map (e_TRoute .u)).set (Int.toNat sZ1.2.1) (.agg [.i yZ7.Start,.lst .u 1 (rZ8.2.map AV.i)])=lZ9.map (e_TRoute .u):=by rw [← hlZ9,List.map_set]; rfl
   refine ZF (ZA cZ2 (ZA hkZ3a (ZA hkZ3b (ZA hyZ4 (ZA eZ6 hyZ7))))) ?_
   refine inn_s (v:=.int .i64 rZ8.1) (ys':=rZ8.2.map AV.i) (z:=.agg [.i yZ7.Start,.lst .u 1 (rZ8.2.map AV.i)]) (by simp only [VS1,VS2,VS3,VS4,VS5,VS6,VT1,VT2,finM_ret,finM_nrm,decide_true,decide_false,List.nodup_nil,List.nodup_cons,oks_p,oks_m,oks_h,ne_eq,not_false_eq_true,Int.reduceEq,Int.reduceNe,true_and,false_and,Nat.reduceSub,Nat.reduceMul,↓reduceIte,reduceCtorEq,Nat.reduceEqDiff,Nat.reduceAdd,Nat.reduceLeDiff,Int.reduceLE,cZ2,hkZ3a,hkZ3b,hyZ4,eZ6,hyZ7]; exact w_bt _ _ hrZ8) (by simp [AV.flat,VT1,VT2]) (by simp [fz_mk,fz_bpo,fz_sc,fz_lsto,fz_agg,fz_tup,fz_fn,fz_sl,fz_pt,fz_top,fzL_nil,fzL_cons,ou_sc,ou_lstu,ou_lsto,ou_agg,ouL_nil,ouL_cons,rfz_var,rfz_arr,rfz_dead,fzL_mi,fzL_mb,fzL_mz,fzL_m8,fzL_m64,ouL_m8,ouL_m64,ouL_mi,ouL_mb,ouL_mz,VZ1]) (by simp [VS1,VS2,VS3,VS4,VS5,VS6,VT1,VT2]) (by simp [AV.flat,VT1,VT2]) rfl ?_
   refine ZG ?_
   cases h
   exact ZL (ZA cZ2 (ZA hkZ3a (ZA hkZ3b (ZA hyZ4 (ZA eZ6 (ZA hyZ7 eZ10)))))) (ZA @S_ao.eq_1 (ZA @SX_ao.eq_1 (ZA hlZ5.symm hlZ9.symm)))
 · cases h
   exact ZL cZ2 (ZA @S_ao.eq_1 @SX_ao.eq_1)
theorem w_cj (aaZ0:Int) (abZ0:List TRoute) {r:Int×List TRoute} (h:M_cj aaZ0 abZ0=some r):OkH Try.prog 36 [.sl 1000000000 0 abZ0.length,.i aaZ0] [(1000000000,.arr 2 (abZ0.map (e_TRoute .u)))] ((fun (r:Int×List TRoute)=>.i r.1) r) ((fun (r:Int×List TRoute)=>[(1000000000,.arr 2 (r.2.map (e_TRoute .u)))]) r):=by
 refine okH_of_body (lr:=[1000000000]) hmix m36M1 rfl ?_
 unfold M_cj at h
 simp only [ZC,A36M1,V36M1]
 obtain ⟨oZ11,hoZ11,h⟩:=bind_s h
 try refine ZF trivial ?_
 refine join_rule0 (blk_rule0 (loop_rule (w_ao) hoZ11 ?_)) ?_
 · exact ZK (ZA @S_ao.eq_1 @SX_ao.eq_1)
 · simp only [ZC,SX_ao,A36M1R2]
   cases h
   exact ZL trivial @V36M1.eq_1
def S_an (aZ0:List Int) (v:Int×Int):St:=⟨[(0,.lst .o 1 (aZ0.map AV.i)),(1,.i v.1),(5,.i v.2)],[]⟩
def SX_an (v:Int):St:=⟨[(1,.i v)],[]⟩
theorem w_an (aZ0:List Int) (sZ1:Int×Int) (o:(Int×Int) ⊕ (Int ⊕ Int)) (h:M_an aZ0 sZ1=some o):AWP (OkS Try.prog) A21L1 (qL [0,1,5] [] (S_an aZ0) (qS (qX 0 [1] [] (SX_an)) (qR V21 (fun r=>.i r))) o) (S_an aZ0 sZ1):=by
 unfold M_an at h
 simp only [ZC,S_an,A21L1]
 obtain ⟨cZ2,h⟩ | ⟨cZ2,h⟩:=cond_s h
 · obtain ⟨yZ3,hyZ3,h⟩:=bind_s h
   obtain ⟨hyZ3a,hyZ3b⟩:=geti_s hyZ3
   obtain ⟨cZ4,h⟩ | ⟨cZ4,h⟩:=cond_s h
   · cases h
     exact ZL (ZA cZ2 (ZA hyZ3a (ZA hyZ3b cZ4))) @V21.eq_1
   · cases h
     exact ZL (ZA cZ2 (ZA hyZ3a (ZA hyZ3b cZ4))) (ZA @S_an.eq_1 @SX_an.eq_1)
 · cases h
   exact ZL cZ2 (ZA @S_an.eq_1 @SX_an.eq_1)
theorem w_ci (aZ0:List Int) (kZ0:Int) {r:Int} (h:M_ci aZ0 kZ0=some r):Ok Try.prog 21 [.lst .o 1 (aZ0.map AV.i),.i kZ0] ((fun r=>.i r) r):=by
 refine ok_of_body hmix m21 rfl ?_
 unfold M_ci at h
 simp only [ZC,A21,V21,body_eq]
 obtain ⟨oZ5,hoZ5,h⟩:=bind_s h
 try refine ZF trivial ?_
 refine join_rule (o:=oZ5) (blk_rule sideR (loop_rule (w_an aZ0) hoZ5 ?_)) (fun vZ6 hv=>?_) (fun xZ7 hv e τ hne hq=>?_)
 · exact ZK (ZA @S_an.eq_1 @SX_an.eq_1)
 · subst hv
   simp only [] at h
   simp only [ZC,SX_an,A21R2]
   cases h
   exact ZL trivial @V21.eq_1
 · subst hv
   simp only [] at h
   obtain ⟨rfl,qZ8⟩:=hq
   cases h
   exact qZ8
def S_ap (aZ0:List TRoute) (v:Int×Int):St:=⟨[(0,.lst .o 2 (aZ0.map (e_TRoute .o))),(1,.i v.1),(5,.i v.2)],[]⟩
def SX_ap (v:Int):St:=⟨[(1,.i v)],[]⟩
theorem w_ap (aZ0:List TRoute) (sZ1:Int×Int) (o:(Int×Int) ⊕ (Int ⊕ Int)) (h:M_ap aZ0 sZ1=some o):AWP (OkS Try.prog) A37L1 (qL [0,1,5] [] (S_ap aZ0) (qS (qX 0 [1] [] (SX_ap)) (qR V37 (fun r=>.i r))) o) (S_ap aZ0 sZ1):=by
 unfold M_ap at h
 simp only [ZC,S_ap,A37L1]
 obtain ⟨cZ2,h⟩ | ⟨cZ2,h⟩:=cond_s h
 · obtain ⟨yZ3,hyZ3,h⟩:=bind_s h
   obtain ⟨hyZ3a,hyZ3b⟩:=geti_s hyZ3
   obtain ⟨cZ4,h⟩ | ⟨cZ4,h⟩:=cond_s h
   · cases h
     exact ZL (ZA cZ2 (ZA hyZ3a (ZA hyZ3b cZ4))) @V37.eq_1
   · obtain ⟨rZ5,hrZ5,h⟩:=bind_s h
     refine ZF (ZA cZ2 (ZA hyZ3a (ZA hyZ3b cZ4))) ?_
     refine ZS (ZA cZ2 (ZA hyZ3a (ZA hyZ3b cZ4))) (w_ci _ _ hrZ5) ?_
     refine ZG ?_
     obtain ⟨cZ6,h⟩ | ⟨cZ6,h⟩:=cond_s h
     · cases h
       exact ZL (ZA cZ2 (ZA hyZ3a (ZA hyZ3b (ZA cZ4 cZ6)))) @V37.eq_1
     · cases h
       exact ZL (ZA cZ2 (ZA hyZ3a (ZA hyZ3b (ZA cZ4 cZ6)))) (ZA @S_ap.eq_1 @SX_ap.eq_1)
 · cases h
   exact ZL cZ2 (ZA @S_ap.eq_1 @SX_ap.eq_1)
theorem w_bu (aZ0:List TRoute) (kZ0:Int) {r:Int} (h:M_bu aZ0 kZ0=some r):Ok Try.prog 37 [.lst .o 2 (aZ0.map (e_TRoute .o)),.i kZ0] ((fun r=>.i r) r):=by
 refine ok_of_body hmix m37 rfl ?_
 unfold M_bu at h
 simp only [ZC,A37,V37,body_eq]
 obtain ⟨oZ7,hoZ7,h⟩:=bind_s h
 try refine ZF trivial ?_
 refine join_rule (o:=oZ7) (blk_rule sideR (loop_rule (w_ap aZ0) hoZ7 ?_)) (fun vZ8 hv=>?_) (fun xZ9 hv e τ hne hq=>?_)
 · exact ZK (ZA @S_ap.eq_1 @SX_ap.eq_1)
 · subst hv
   simp only [] at h
   simp only [ZC,SX_ap,A37R2]
   cases h
   exact ZL trivial @V37.eq_1
 · subst hv
   simp only [] at h
   obtain ⟨rfl,qZ10⟩:=hq
   cases h
   exact qZ10
theorem w_du (aNZ0:TNetwork) (aRingZ0:List Int) (aFiberZ0:Int) {r:Bool} (h:M_du aNZ0 aRingZ0 aFiberZ0=some r):Ok Try.prog 9 [.agg [.lst .o 1 (aNZ0.Nodes.map AV.z),.lst .o 4 (aNZ0.Fibers.map (e_TFiber .o))],.lst .o 1 (aRingZ0.map AV.i),.i aFiberZ0] ((fun r=>.b r) r):=by
 refine ok_of_body hmix m9 rfl ?_
 unfold M_du at h
 simp only [ZC,A9,V9,body_eq]
 obtain ⟨cZ1,h⟩ | ⟨cZ1,h⟩:=cond_s h
 · cases h
   exact ZL cZ1 @V9.eq_1
 · obtain ⟨rZ2,hrZ2,h⟩:=bind_s h
   refine ZF cZ1 ?_
   refine ZS cZ1 (w_cz _ _ hrZ2) ?_
   refine ZG ?_
   obtain ⟨cZ3,h⟩ | ⟨cZ3,h⟩:=cond_s h
   · cases h
     exact ZL (ZA cZ1 cZ3) @V9.eq_1
   · obtain ⟨rZ4,hrZ4,h⟩:=bind_s h
     refine ZF (ZA cZ1 cZ3) ?_
     refine ZU (ZA cZ1 cZ3) (w_bf _ hrZ4) ?_
     refine ZG ?_
     obtain ⟨rZ5,hrZ5,h⟩:=bind_s h
     refine ZF (ZA cZ1 cZ3) ?_
     refine ZU (ZA cZ1 cZ3) (w_bg _ hrZ5) ?_
     refine ZG ?_
     obtain ⟨rZ6,hrZ6,h⟩:=bind_s h
     refine ZF (ZA cZ1 cZ3) ?_
     refine ZU (ZA cZ1 cZ3) (w_dr _ _ _ hrZ6) ?_
     refine ZG ?_
     obtain ⟨rZ7,hrZ7,h⟩:=bind_s h
     refine ZF (ZA cZ1 cZ3) ?_
     refine ZU (ZA cZ1 cZ3) (w_bf _ hrZ7) ?_
     refine ZG ?_
     obtain ⟨rZ8,hrZ8,h⟩:=bind_s h
     refine ZF (ZA cZ1 cZ3) ?_
     refine ZU (ZA cZ1 cZ3) (w_bg _ hrZ8) ?_
     refine ZG ?_
     obtain ⟨rZ9,hrZ9,h⟩:=bind_s h
     refine ZF (ZA cZ1 cZ3) ?_
     refine ZU (ZA cZ1 cZ3) (w_cc _ _ _ hrZ9) ?_
     refine ZG ?_
     obtain ⟨oZ12,hoZ12,h⟩:=bind_s h
     try refine ZF (ZA cZ1 cZ3) ?_
     refine join_rule0 (sh:=(fun v=>⟨[(1,.lst .o 1 (aRingZ0.map AV.i)),(2,.i aFiberZ0),(3,.pt 3 0 0),(8,.sl 8 0 rZ6.1.length),(9,.b rZ6.2),(10,.pt 10 0 0),(11,.sl 11 0 rZ8.length),(12,.sl 12 0 rZ9.1.length),(13,.b rZ9.2),(55,.b v)],[(3,.var (.agg [.lst .o 1 (aNZ0.Nodes.map AV.z),.lst .o 4 (aNZ0.Fibers.map (e_TFiber .o))])),(8,.arr 2 (rZ6.1.map (e_TRoute .u))),(10,.var (.agg [.sl 37 0 rZ7.Nodes.length,.sl 1037 0 rZ7.Fibers.length])),(11,.arr 1 (rZ8.map AV.i)),(12,.arr 2 (rZ9.1.map (e_TRoute .u))),(37,.arr 1 (rZ7.Nodes.map AV.z)),(1037,.arr 4 (rZ7.Fibers.map (e_TFiber .u)))]⟩)) (s:=oZ12) ?_ ?_
     · replace h:=hoZ12
       obtain ⟨rZ10,hrZ10,h⟩:=bind_s h
       refine ZF (ZA cZ1 cZ3) ?_
       refine ZS (ZA cZ1 cZ3) (w_bm _ _ hrZ10) ?_
       refine ZG ?_
       obtain ⟨cZ11,h⟩ | ⟨cZ11,h⟩:=cond_s h
       · cases h
         exact ZL (ZA cZ1 (ZA cZ3 cZ11)) trivial
       · cases h
         exact ZL (ZA cZ1 (ZA cZ3 cZ11)) trivial
     · simp only [ZC,A9R1]
       obtain ⟨cZ13,h⟩ | ⟨cZ13,h⟩:=cond_s h
       · cases h
         exact ZL (ZA cZ1 (ZA cZ3 cZ13)) @V9.eq_1
       · obtain ⟨rZ14,hrZ14,h⟩:=bind_s h
         refine ZF (ZA cZ1 (ZA cZ3 cZ13)) ?_
         refine ZU (ZA cZ1 (ZA cZ3 cZ13)) (w_bf _ hrZ14) ?_
         refine ZG ?_
         obtain ⟨rZ15,hrZ15,h⟩:=bind_s h
         refine ZF (ZA cZ1 (ZA cZ3 cZ13)) ?_
         refine ZS (ZA cZ1 (ZA cZ3 cZ13)) (w_da _ _ hrZ15) ?_
         refine ZG ?_
         obtain ⟨cZ16,h⟩ | ⟨cZ16,h⟩:=cond_s h
         · cases h
           exact ZL (ZA cZ1 (ZA cZ3 (ZA cZ13 cZ16))) @V9.eq_1
         · obtain ⟨rZ17,hrZ17,h⟩:=bind_s h
           refine ZF (ZA cZ1 (ZA cZ3 (ZA cZ13 cZ16))) ?_
           refine ZU (ZA cZ1 (ZA cZ3 (ZA cZ13 cZ16))) (w_bg _ hrZ17) ?_
           refine ZG ?_
           obtain ⟨rZ18,hrZ18,h⟩:=bind_s h
           refine ZF (ZA cZ1 (ZA cZ3 (ZA cZ13 cZ16))) ?_
           refine ZS (ZA cZ1 (ZA cZ3 (ZA cZ13 cZ16))) (w_bs _ _ hrZ18) ?_
           refine ZG ?_
           obtain ⟨cZ19,h⟩ | ⟨cZ19,h⟩:=cond_s h
           · cases h
             exact ZL (ZA cZ1 (ZA cZ3 (ZA cZ13 (ZA cZ16 cZ19)))) @V9.eq_1
           · obtain ⟨rZ20,hrZ20,h⟩:=bind_s h
             refine ZF (ZA cZ1 (ZA cZ3 (ZA cZ13 (ZA cZ16 cZ19)))) ?_
             refine ZW (ZA cZ1 (ZA cZ3 (ZA cZ13 (ZA cZ16 cZ19)))) (w_dd _ _ _ hrZ20) (h2:=by first | exact nm_ok [1000000000,1000000001] rfl (by decide +kernel) | exact nm_ok2 [1000000000,1000000001] [] rfl (by decide +kernel) ZQ | exact ZQ) (hk:=?_)
             refine ZG ?_
             obtain ⟨rZ21,hrZ21,h⟩:=bind_s h
             refine ZF (ZA cZ1 (ZA cZ3 (ZA cZ13 (ZA cZ16 cZ19)))) ?_
             refine ZW (ZA cZ1 (ZA cZ3 (ZA cZ13 (ZA cZ16 cZ19)))) (w_bt _ _ hrZ21) (h2:=by first | exact nm_ok [1000000000] rfl (by decide +kernel) | exact nm_ok2 [1000000000] [] rfl (by decide +kernel) ZQ | exact ZQ) (hk:=?_)
             refine ZG ?_
             obtain ⟨oZ25,hoZ25,h⟩:=bind_s h
             try refine ZF (ZA cZ1 (ZA cZ3 (ZA cZ13 (ZA cZ16 cZ19)))) ?_
             refine join_rule0 (sh:=(fun v=>⟨[(1,.lst .o 1 (aRingZ0.map AV.i)),(2,.i aFiberZ0),(3,.pt 3 0 0),(8,.sl 8 0 rZ6.1.length),(9,.b rZ6.2),(12,.sl 12 0 rZ9.1.length),(84,.b v)],[(3,.var (.agg [.lst .o 1 (aNZ0.Nodes.map AV.z),.lst .o 4 (aNZ0.Fibers.map (e_TFiber .o))])),(8,.arr 2 (rZ6.1.map (e_TRoute .u))),(12,.arr 2 (rZ9.1.map (e_TRoute .u)))]⟩)) (s:=oZ25) ?_ ?_
             · replace h:=hoZ25
               obtain ⟨cZ22,h⟩ | ⟨cZ22,h⟩:=cond_s h
               · cases h
                 exact ZL (ZA cZ1 (ZA cZ3 (ZA cZ13 (ZA cZ16 (ZA cZ19 cZ22))))) trivial
               · obtain ⟨rZ23,hrZ23,h⟩:=bind_s h
                 refine ZF (ZA cZ1 (ZA cZ3 (ZA cZ13 (ZA cZ16 (ZA cZ19 cZ22))))) ?_
                 refine ZS (ZA cZ1 (ZA cZ3 (ZA cZ13 (ZA cZ16 (ZA cZ19 cZ22))))) (w_bm _ _ hrZ23) ?_
                 refine ZG ?_
                 obtain ⟨cZ24,h⟩ | ⟨cZ24,h⟩:=cond_s h
                 · cases h
                   exact ZL (ZA cZ1 (ZA cZ3 (ZA cZ13 (ZA cZ16 (ZA cZ19 (ZA cZ22 cZ24)))))) trivial
                 · cases h
                   exact ZL (ZA cZ1 (ZA cZ3 (ZA cZ13 (ZA cZ16 (ZA cZ19 (ZA cZ22 cZ24)))))) trivial
             · simp only [ZC,A9R2]
               obtain ⟨cZ26,h⟩ | ⟨cZ26,h⟩:=cond_s h
               · cases h
                 exact ZL (ZA cZ1 (ZA cZ3 (ZA cZ13 (ZA cZ16 (ZA cZ19 cZ26))))) @V9.eq_1
               · obtain ⟨rZ27,hrZ27,h⟩:=bind_s h
                 refine ZF (ZA cZ1 (ZA cZ3 (ZA cZ13 (ZA cZ16 (ZA cZ19 cZ26))))) ?_
                 refine ⟨by simp [fz_mk,fz_bpo,fz_sc,fz_lsto,fz_agg,fz_tup,fz_fn,fz_sl,fz_pt,fz_top,fzL_nil,fzL_cons,ou_sc,ou_lstu,ou_lsto,ou_agg,ouL_nil,ouL_cons,rfz_var,rfz_arr,rfz_dead,fzL_mi,fzL_mb,fzL_mz,fzL_m8,fzL_m64,ouL_m8,ouL_m64,ouL_mi,ouL_mb,ouL_mz,VZ1],call_m (ok:=⟨_,_,_⟩) (by simp only [VS1,VS2,VS3,VS4,VS5,VS6,VT1,VT2,finM_ret,finM_nrm,decide_true,decide_false,List.nodup_nil,List.nodup_cons,oks_p,oks_m,oks_h,ne_eq,not_false_eq_true,Int.reduceEq,Int.reduceNe,true_and,false_and,Nat.reduceSub,Nat.reduceMul,↓reduceIte,reduceCtorEq,Nat.reduceEqDiff,Nat.reduceAdd,Nat.reduceLeDiff,Int.reduceLE,cZ1,cZ3,cZ13,cZ16,cZ19,cZ26]; first | exact w_cj _ _ hrZ27 | (have hw:=w_cj _ _ hrZ27; simp only [VS1,VS2,VS3,VS4,VS5,VS6,VT1,VT2,finM_ret,finM_nrm,decide_true,decide_false,List.nodup_nil,List.nodup_cons,oks_p,oks_m,oks_h,ne_eq,not_false_eq_true,Int.reduceEq,Int.reduceNe,true_and,false_and,Nat.reduceSub,Nat.reduceMul,↓reduceIte,reduceCtorEq,Nat.reduceEqDiff,Nat.reduceAdd,Nat.reduceLeDiff,Int.reduceLE,cZ1,cZ3,cZ13,cZ16,cZ19,cZ26] at hw; exact hw)) (by simp [VS1,VS2,VS3,VS4,VS5,VS6,VT1,VT2]) (by first | exact nm_ok [1000000000] rfl (by decide +kernel) | exact nm_ok2 [1000000000] [] rfl (by decide +kernel) (by simp [VS1,VS2,VS3,VS4,VS5,VS6,VT1,VT2]) | simp [VS1,VS2,VS3,VS4,VS5,VS6,VT1,VT2]) ?_⟩
                 refine ZG ?_
                 obtain ⟨lZ28,hlZ28,h⟩:=bnd_s h
                 have eZ29:sub (rZ27.2.map (e_TRoute .u)) 0 rZ9.1.length=lZ28.map (e_TRoute .u):=by rw [sub_mapT,hlZ28]
                 obtain ⟨rZ30,hrZ30,h⟩:=bind_s h
                 refine ZF (ZA cZ1 (ZA cZ3 (ZA cZ13 (ZA cZ16 (ZA cZ19 (ZA cZ26 eZ29)))))) ?_
                 refine ZS (ZA cZ1 (ZA cZ3 (ZA cZ13 (ZA cZ16 (ZA cZ19 (ZA cZ26 eZ29)))))) (w_bu _ _ hrZ30) ?_
                 refine ZG ?_
                 obtain ⟨cZ31,h⟩ | ⟨cZ31,h⟩:=cond_s h
                 · cases h
                   exact ZL (ZA cZ1 (ZA cZ3 (ZA cZ13 (ZA cZ16 (ZA cZ19 (ZA cZ26 (ZA eZ29 cZ31))))))) @V9.eq_1
                 · obtain ⟨cZ32,h⟩ | ⟨cZ32,h⟩:=cond_s h
                   · cases h
                     exact ZL (ZA cZ1 (ZA cZ3 (ZA cZ13 (ZA cZ16 (ZA cZ19 (ZA cZ26 (ZA eZ29 (ZA cZ31 cZ32)))))))) @V9.eq_1
                   · obtain ⟨rZ33,hrZ33,h⟩:=bind_s h
                     refine ZF (ZA cZ1 (ZA cZ3 (ZA cZ13 (ZA cZ16 (ZA cZ19 (ZA cZ26 (ZA eZ29 (ZA cZ31 cZ32)))))))) ?_
                     refine ZU (ZA cZ1 (ZA cZ3 (ZA cZ13 (ZA cZ16 (ZA cZ19 (ZA cZ26 (ZA eZ29 (ZA cZ31 cZ32)))))))) (w_bf _ hrZ33) ?_
                     refine ZG ?_
                     obtain ⟨rZ34,hrZ34,h⟩:=bind_s h
                     refine ZF (ZA cZ1 (ZA cZ3 (ZA cZ13 (ZA cZ16 (ZA cZ19 (ZA cZ26 (ZA eZ29 (ZA cZ31 cZ32)))))))) ?_
                     refine ZU (ZA cZ1 (ZA cZ3 (ZA cZ13 (ZA cZ16 (ZA cZ19 (ZA cZ26 (ZA eZ29 (ZA cZ31 cZ32)))))))) (w_bg _ hrZ34) ?_
                     refine ZG ?_
                     obtain ⟨rZ35,hrZ35,h⟩:=bind_s h
                     refine ZF (ZA cZ1 (ZA cZ3 (ZA cZ13 (ZA cZ16 (ZA cZ19 (ZA cZ26 (ZA eZ29 (ZA cZ31 cZ32)))))))) ?_
                     refine ZU (ZA cZ1 (ZA cZ3 (ZA cZ13 (ZA cZ16 (ZA cZ19 (ZA cZ26 (ZA eZ29 (ZA cZ31 cZ32)))))))) (w_cc _ _ _ hrZ35) ?_
                     refine ZG ?_
                     obtain ⟨oZ38,hoZ38,h⟩:=bind_s h
                     try refine ZF (ZA cZ1 (ZA cZ3 (ZA cZ13 (ZA cZ16 (ZA cZ19 (ZA cZ26 (ZA eZ29 (ZA cZ31 cZ32)))))))) ?_
                     refine join_rule0 (sh:=(fun v=>⟨[(12,.sl 12 0 rZ9.1.length),(15,.i rZ27.1),(113,.b v)],[(12,.arr 2 (rZ27.2.map (e_TRoute .u)))]⟩)) (s:=oZ38) ?_ ?_
                     · replace h:=hoZ38
                       obtain ⟨rZ36,hrZ36,h⟩:=bind_s h
                       refine ZF (ZA cZ1 (ZA cZ3 (ZA cZ13 (ZA cZ16 (ZA cZ19 (ZA cZ26 (ZA eZ29 (ZA cZ31 cZ32)))))))) ?_
                       refine ZS (ZA cZ1 (ZA cZ3 (ZA cZ13 (ZA cZ16 (ZA cZ19 (ZA cZ26 (ZA eZ29 (ZA cZ31 cZ32)))))))) (w_bm _ _ hrZ36) ?_
                       refine ZG ?_
                       obtain ⟨cZ37,h⟩ | ⟨cZ37,h⟩:=cond_s h
                       · cases h
                         exact ZL (ZA cZ1 (ZA cZ3 (ZA cZ13 (ZA cZ16 (ZA cZ19 (ZA cZ26 (ZA eZ29 (ZA cZ31 (ZA cZ32 cZ37))))))))) trivial
                       · cases h
                         exact ZL (ZA cZ1 (ZA cZ3 (ZA cZ13 (ZA cZ16 (ZA cZ19 (ZA cZ26 (ZA eZ29 (ZA cZ31 (ZA cZ32 cZ37))))))))) trivial
                     · simp only [ZC,A9R3]
                       obtain ⟨cZ39,h⟩ | ⟨cZ39,h⟩:=cond_s h
                       · cases h
                         exact ZL (ZA cZ1 (ZA cZ3 (ZA cZ13 (ZA cZ16 (ZA cZ19 (ZA cZ26 (ZA eZ29 (ZA cZ31 (ZA cZ32 cZ39))))))))) @V9.eq_1
                       · obtain ⟨rZ40,hrZ40,h⟩:=bind_s h
                         refine ZF (ZA cZ1 (ZA cZ3 (ZA cZ13 (ZA cZ16 (ZA cZ19 (ZA cZ26 (ZA eZ29 (ZA cZ31 (ZA cZ32 cZ39))))))))) ?_
                         refine ZS (ZA cZ1 (ZA cZ3 (ZA cZ13 (ZA cZ16 (ZA cZ19 (ZA cZ26 (ZA eZ29 (ZA cZ31 (ZA cZ32 cZ39))))))))) (w_bu _ _ hrZ40) ?_
                         refine ZG ?_
                         obtain ⟨cZ41,h⟩ | ⟨cZ41,h⟩:=cond_s h
                         · cases h
                           exact ZL (ZA cZ1 (ZA cZ3 (ZA cZ13 (ZA cZ16 (ZA cZ19 (ZA cZ26 (ZA eZ29 (ZA cZ31 (ZA cZ32 (ZA cZ39 cZ41)))))))))) @V9.eq_1
                         · obtain ⟨cZ42,h⟩ | ⟨cZ42,h⟩:=cond_s h
                           · cases h
                             exact ZL (ZA cZ1 (ZA cZ3 (ZA cZ13 (ZA cZ16 (ZA cZ19 (ZA cZ26 (ZA eZ29 (ZA cZ31 (ZA cZ32 (ZA cZ39 (ZA cZ41 cZ42))))))))))) @V9.eq_1
                           · cases h
                             exact ZL (ZA cZ1 (ZA cZ3 (ZA cZ13 (ZA cZ16 (ZA cZ19 (ZA cZ26 (ZA eZ29 (ZA cZ31 (ZA cZ32 (ZA cZ39 (ZA cZ41 cZ42))))))))))) @V9.eq_1
end Vs

