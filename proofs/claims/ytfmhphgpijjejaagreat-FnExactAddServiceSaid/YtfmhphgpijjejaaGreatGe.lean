/-
  Part of the proof that FnExactAddService returns true at every input.
-/
import Derived.Test.YtfmhphgpijjejaaGreatGb
set_option linter.defProp false
set_option linter.unusedSimpArgs false
set_option linter.unusedVariables false
open And renaming intro -> A0
open Go.Proofs.Tryz renaming prog -> A1
open Nat renaming reduceEqDiff -> A2, reduceLeDiff -> A3, reduceSub -> A5, reduceMul -> A6, reduceAdd -> A7, reduceLT -> C3
open List renaming map_append -> A4, nodup_cons -> A8, nodup_nil -> B0, length_replicate -> B5, replicate -> B6, map_replicate -> B7, length_nil -> B8, length_append -> B9, map_set -> C0, length_cons -> C1, length_set -> C2
open Int renaming reduceEq -> B1, reduceNe -> B2, reduceLE -> B3, toNat -> B4
set_option maxHeartbeats 1000000
set_option maxRecDepth 8000
namespace Vs
open Go Go.Proofs
attribute [local irreducible] AWP dS eff vD gE callM
instance(a:aH):CW (Iy a) (fun(r:Int)=>Ok A1 69 [(bD .o a)] (.i r)):=⟨fun r h=>ZO m69 (Iy.eq_1 _) trivial (ZA @bL.eq_1 @A69.eq_1) h⟩
instance(a:gD)(c:gD):CW (WF a c) (fun(r:Bool)=>Ok A1 205 [(dl .o a),(dl .o c)] (.b r)):=⟨fun r h=>ZO m205 (WF.eq_1 _ _) trivial (ZA @aO.eq_1 @A205.eq_1) h⟩
instance(a:ai)(c:aH)(d:ai)(g:aH):CW (AB a c d g) (fun(r:Bool)=>Ok A1 142 [(ax .o a),(bD .o c),(ax .o d),(bD .o g)] (.b r)):=⟨fun r h=>by
 refine aL br m142 rfl ?_;unfold AB at h;simp only[ZC,A142,vy,aY];obtain⟨k,j,h⟩:=ah h;refine ZF trivial ?_;refine ZSG trivial (CW.w _ j) ?_;cases h;exact ZL trivial @vy.eq_1⟩
instance(j:ae)(a:af)(c:af):CW (Iz j a c) (fun(r:Bool)=>Ok A1 97 [(au .o j),(aj .o a),(aj .o c)] (.b r)):=⟨fun r h=>by
 refine aL br m97 rfl ?_;unfold Iz at h;simp only[ZC,A97,dx,aY];obtain⟨q,t,h⟩:=ah h;try refine ZF trivial ?_
 refine aD (sh:=(fun v=>⟨[(3,.pt 3 0 0),(4,.pt 4 0 0),(5,.pt 5 0 0),(38,.b v)],[(3,.var (au .o j)),(4,.var (aj .o a)),(5,.var (aj .o c))]⟩)) (s:=q) ?_ ?_
 ·replace h:=t;obtain⟨d1,u,h⟩:=ah h;refine ZF trivial ?_;refine ZSG trivial (CW.w _ u) ?_;obtain⟨g,h⟩|⟨g,h⟩:=aw h
  ·cases h;exact ZL g trivial
  ·obtain⟨g1,w,h⟩:=ah h;refine ZF g ?_;refine ZSG g (CW.w _ w) ?_;obtain⟨l,h⟩|⟨l,h⟩:=aw h
   ·cases h;exact ZL (ZA g l) trivial
   ·obtain⟨i1,x,h⟩:=ah h;have f:=ZA g l;refine ZF f ?_;refine ZSG f (CW.w _ x) ?_;cases h;exact ZL f trivial
 ·simp only[ZC,XY];obtain⟨d,h⟩|⟨d,h⟩:=aw h
  ·cases h;exact ZL d @dx.eq_1
  ·obtain⟨y,a1,h⟩:=ah h;try refine ZF d ?_
   refine aD (sh:=(fun v=>⟨[(4,.pt 4 0 0),(5,.pt 5 0 0),(7,.b v)],[(4,.var (aj .o a)),(5,.var (aj .o c))]⟩)) (s:=y) ?_ ?_
   ·replace h:=a1;obtain⟨k,h⟩|⟨k,h⟩:=aw h
    ·obtain⟨m,h⟩|⟨m,h⟩:=aw h
     ·obtain⟨j1,b1,h⟩:=ah h;have f:=ZA d (ZA k m);refine ZF f ?_;refine ZSG f (CW.w _ b1) ?_;cases h;exact ZL f trivial
     ·cases h;exact ZL (ZA d (ZA k m)) trivial
    ·cases h;exact ZL (ZA d k) trivial
   ·simp only[ZC,XT];obtain⟨p,h⟩|⟨p,h⟩:=aw h
    ·cases h;exact ZL (ZA d p) @dx.eq_1
    ·obtain⟨k1,c1,h⟩:=ah h;have f:=ZA d p;refine ZF f ?_;refine ZSG f (CW.w _ c1) ?_;cases h;exact ZL f @dx.eq_1⟩
theorem acx(a:af)(p1Z0:ae)(p2Z0:af){r:Bool}(h:Ca a p1Z0 p2Z0=some r):Ok A1 96 [(aj .o a),.bp .o (au .o p1Z0) 0,.bp .o (aj .o p2Z0) 0] (.b r):=by
 refine aL br m96 rfl ?_;unfold Ca at h;simp only[ZC,A96,aO,aY];obtain⟨d,c,h⟩:=ah h;refine ZF trivial ?_;refine ZSG trivial (CW.w _ c) ?_;cases h;exact ZL trivial @aO.eq_1
instance(a:af)(p1Z0:ae)(p2Z0:af):CW (Ca a p1Z0 p2Z0) (fun(r:Bool)=>Ok A1 96 [(aj .o a),.bp .o (au .o p1Z0) 0,.bp .o (aj .o p2Z0) 0] (.b r)):=⟨fun r h=>acx a p1Z0 p2Z0 h⟩
def Pj(a:List af)(F_fZ0:Nat)(C_fZ0:List AV)(v:Int):St:=⟨[(0,.lst .o 10 (a.map (aj .o))),(1,.fn F_fZ0 C_fZ0),(7,.i (a.length:Int)),(8,.i v)],[]⟩
def w_bl(c:List af)(j:af->Option Bool)(F_fZ0:Nat)(C_fZ0:List AV)(hC_fZ0:jR C_fZ0)(hf_fZ0:∀(x0:af)(r:Bool),j x0=some r->Ok A1 F_fZ0 ((.agg [.i x0.Id,.i x0.W,.i x0.N.N,.lst .o 1 (x0.N.F.map AV.i),.i x0.P.N,.i x0.P.F,.i x0.F.N,.lst .o 1 (x0.F.F.map AV.i),.i x0.L.N,.i x0.L.F])::C_fZ0) (.b r))(k:Int)(o:Int⊕(Unit⊕Int))(h:JU c j k=some o):AWP (OkS A1) KE (qL [0,1,7,8] [] (Pj c F_fZ0 C_fZ0) (qS (qX 0 [] [] (ce)) (qR aO (fun r=>.i r))) o) (Pj c F_fZ0 C_fZ0 k):=by
 have e:=ZA @Pj.eq_1 @ce.eq_1;unfold JU at h;simp only[ZC,Pj,KE];obtain⟨a,h⟩|⟨a,h⟩:=aw h
 ·obtain⟨m,d,h⟩:=ah h;obtain⟨p,l,h⟩:=ah h;have f:=ZA a (bc d);refine ZF f ?_;have f:=ZA f hC_fZ0.1;refine ZSG f (hf_fZ0 _ _ l) ?_;obtain⟨g,h⟩|⟨g,h⟩:=aw h
  ·cases h;exact ZL (ZA a (ZA (bc d) g)) (ZA @aO.eq_1 (ZA hC_fZ0.2 ((bO hC_fZ0))))
  ·cases h;exact ZL (ZA a (ZA (bc d) g)) (ZA e (ZA hC_fZ0.2 ((bO hC_fZ0))))
 ·cases h;exact ZL a (ZA e (ZA hC_fZ0.2 ((bO hC_fZ0))))
def w_fd(a:List af)(c:af->Option Bool){r:Int}(h:Ts a c=some r)(F_fZ0:Nat)(C_fZ0:List AV)(hC_fZ0:jR C_fZ0)(hf_fZ0:∀(x0:af)(r:Bool),c x0=some r->Ok A1 F_fZ0 ((.agg [.i x0.Id,.i x0.W,.i x0.N.N,.lst .o 1 (x0.N.F.map AV.i),.i x0.P.N,.i x0.P.F,.i x0.F.N,.lst .o 1 (x0.F.F.map AV.i),.i x0.L.N,.i x0.L.F])::C_fZ0) (.b r)):Ok A1 98 [.lst .o 10 (a.map (aj .o)),.fn F_fZ0 C_fZ0] (.i r):=by
 refine aL br m98 rfl ?_;unfold Ts at h;simp only[ZC,A98,aO,aY];obtain⟨d,g,h⟩:=ah h;try refine ZF trivial ?_
 refine bW (o:=d) (co fM (aJ (w_bl a c F_fZ0 C_fZ0 hC_fZ0 hf_fZ0) g ?_)) (fun k hv=>?_) (fun l hv e τ hne hq=>?_)
 ·exact ZK (ZA @Pj.eq_1 (ZA @ce.eq_1 (ZA hC_fZ0.2 ((bO hC_fZ0)))))
 ·subst hv;simp only[] at h;simp only[ZC,ce,Yb];cases h;exact ZL trivial (ZA @aO.eq_1 (ZA hC_fZ0.2 ((bO hC_fZ0))))
 ·subst hv;simp only[] at h;obtain⟨rfl,j⟩:=hq;cases h;exact j
def SZ(a:List af)(c:af->Option Bool){r:Bool}(h:td a c=some r)(F_fZ0:Nat)(C_fZ0:List AV)(hC_fZ0:jR C_fZ0)(hf_fZ0:∀(x0:af)(r:Bool),c x0=some r->Ok A1 F_fZ0 ((.agg [.i x0.Id,.i x0.W,.i x0.N.N,.lst .o 1 (x0.N.F.map AV.i),.i x0.P.N,.i x0.P.F,.i x0.F.N,.lst .o 1 (x0.F.F.map AV.i),.i x0.L.N,.i x0.L.F])::C_fZ0) (.b r)):Ok A1 95 [.lst .o 10 (a.map (aj .o)),.fn F_fZ0 C_fZ0] (.b r):=by
 refine aL br m95 rfl ?_;unfold td at h;simp only[ZC,A95,aO,aY];obtain⟨g,d,h⟩:=ah h;refine ZF trivial ?_;refine ZSG hC_fZ0.1 (w_fd _ _ d F_fZ0 C_fZ0 hC_fZ0 hf_fZ0) ?_;cases h;exact ZL trivial (ZA @aO.eq_1 (ZA hC_fZ0.2 ((bO hC_fZ0))))
def IY(b:ae)(a:List af)(v:Int):St:=⟨[(1,.lst .o 10 (a.map (aj .o))),(2,.pt 2 0 0),(15,.lst .o 10 (a.map (aj .o))),(16,.i (a.length:Int)),(17,.i v)],[(2,.var (au .o b))]⟩
instance(c:ae)(j:List af):CL (Ik c j) Ol [1,2,15,16,17] [2] (IY c j) (qS (qX 0 [] [] (ce)) (qR aO (fun r=>.b r))):=⟨fun s o h=>by
 unfold Ik at h;simp only[ZC,IY,Ol];obtain⟨l,h⟩|⟨l,h⟩:=aw h
 ·obtain⟨a,u,h⟩:=ah h;obtain⟨q1,v,h⟩:=ah h;have f:=ZA l (bc u);refine ZF f ?_;refine ZSG f (CW.w _ v) ?_;obtain⟨d,h⟩|⟨d,h⟩:=aw h
  ·cases h;exact ZL (ZA f d) @aO.eq_1
  ·obtain⟨g,h⟩|⟨g,h⟩:=aw h
   ·obtain⟨s1,t,h⟩:=ah h;obtain⟨m,h⟩|⟨m,h⟩:=aw h
    ·cases h;exact ZL (ZA f (ZA d (ZA g (ZA (bc t) m)))) @aO.eq_1
    ·obtain⟨t1,w,h⟩:=ah h;obtain⟨x,y,a1,b1,c1⟩:=Ed (aj .o) w;obtain⟨u1,d1,h⟩:=ah h;have f:=ZA f (ZA d (ZA g (ZA (bc t) (ZA m (ZA x (ZA y (ZA a1 (ZA b1 c1))))))));refine ZF f ?_;refine ZSG f (SZ _ _ d1 96 [.bp .o (.agg [.lst .o 1 (c.N.map AV.z),.lst .o 4 (c.F.map (aF .o))]) 0,.bp .o (.agg [.i a.Id,.i a.W,.i a.N.N,.lst .o 1 (a.N.F.map AV.i),.i a.P.N,.i a.P.F,.i a.F.N,.lst .o 1 (a.F.F.map AV.i),.i a.L.N,.i a.L.F]) 0] ⟨fun ρ k=>by simp only[VS1,VS2,VS3,VS4,VS5,VS6,VT1,VT2,bC,bB,decide_true,decide_false,B0,A8,du,dr,dq,ne_eq,not_false_eq_true,B1,B2,true_and,false_and,A5,A6,↓reduceIte,reduceCtorEq,A2,A7,A3,B3],by simp[aP,AV.ments]⟩ (fun _ _ h=>acx _ _ _ h)) ?_;obtain⟨p,h⟩|⟨p,h⟩:=aw h
     ·cases h;exact ZL (ZA f p) @aO.eq_1
     ·cases h;exact ZL (ZA f p) (ZA @IY.eq_1 @ce.eq_1)
   ·obtain⟨v1,g1,h⟩:=ah h;obtain⟨i1,j1,k1,l1,m1⟩:=Ed (aj .o) g1;obtain⟨w1,p1,h⟩:=ah h;have f:=ZA f (ZA d (ZA g (ZA i1 (ZA j1 (ZA k1 (ZA l1 m1))))));refine ZF f ?_;refine ZSG f (SZ _ _ p1 96 [.bp .o (.agg [.lst .o 1 (c.N.map AV.z),.lst .o 4 (c.F.map (aF .o))]) 0,.bp .o (.agg [.i a.Id,.i a.W,.i a.N.N,.lst .o 1 (a.N.F.map AV.i),.i a.P.N,.i a.P.F,.i a.F.N,.lst .o 1 (a.F.F.map AV.i),.i a.L.N,.i a.L.F]) 0] ⟨fun ρ k=>by simp only[VS1,VS2,VS3,VS4,VS5,VS6,VT1,VT2,bC,bB,decide_true,decide_false,B0,A8,du,dr,dq,ne_eq,not_false_eq_true,B1,B2,true_and,false_and,A5,A6,↓reduceIte,reduceCtorEq,A2,A7,A3,B3],by simp[aP,AV.ments]⟩ (fun _ _ h=>acx _ _ _ h)) ?_;obtain⟨q,h⟩|⟨q,h⟩:=aw h
    ·cases h;exact ZL (ZA f q) @aO.eq_1
    ·cases h;exact ZL (ZA f q) (ZA @IY.eq_1 @ce.eq_1)
 ·cases h;exact ZL l (ZA @IY.eq_1 @ce.eq_1)⟩
instance(a:ae)(c:List af):CW (KC a c) (fun(r:Bool)=>Ok A1 24 [(au .o a),.lst .o 10 (c.map (aj .o))] (.b r)):=⟨fun r h=>by
 refine aL br m24 rfl ?_;unfold KC at h;simp only[ZC,A24,aO,aY];obtain⟨i,j,h⟩:=ah h;try refine ZF trivial ?_
 refine aD (sh:=(fun v=>⟨[(1,.lst .o 10 (c.map (aj .o))),(2,.pt 2 0 0),(14,.b v)],[(2,.var (au .o a))]⟩)) (s:=i) ?_ ?_
 ·replace h:=j;obtain⟨q,k,h⟩:=ah h;refine ZF trivial ?_;refine ZSG trivial (CW.w _ k) ?_;obtain⟨g,h⟩|⟨g,h⟩:=aw h
  ·cases h;exact ZL g trivial
  ·cases h;exact ZL g trivial
 ·simp only[ZC,XW];obtain⟨d,h⟩|⟨d,h⟩:=aw h
  ·cases h;exact ZL d @aO.eq_1
  ·obtain⟨l,m,h⟩:=ah h;try refine ZF d ?_
   refine bW (o:=l) (co fM (aJ CL.w m ?_)) (fun t hv=>?_) (fun u hv e τ hne hq=>?_)
   ·exact ZK (ZA @IY.eq_1 @ce.eq_1)
   ·subst hv;simp only[] at h;simp only[ZC,ce,XB];cases h;exact ZL d @aO.eq_1
   ·subst hv;simp only[] at h;obtain⟨rfl,p⟩:=hq;cases h;exact p⟩
theorem w_ec(a:af)(p1Z0:af){r:Bool}(h:LU a p1Z0=some r):Ok A1 155 [(aj .o a),.bp .o (aj .o p1Z0) 0] (.b r):=by
 refine aL br m155 rfl ?_;unfold LU at h;simp only[ZC,A155,rp,aY];cases h;exact ZL trivial @rp.eq_1
instance(a:af)(p1Z0:af):CW (LU a p1Z0) (fun(r:Bool)=>Ok A1 155 [(aj .o a),.bp .o (aj .o p1Z0) 0] (.b r)):=⟨fun r h=>w_ec a p1Z0 h⟩
def Jv(a:List az)(v:Int):St:=⟨[(0,.lst .o 2 (a.map (aB .o))),(5,.lst .o 2 (a.map (aB .o))),(6,.i (a.length:Int)),(7,.i v)],[]⟩
instance(d:List az):CL (FZ d) Cv [0,5,6,7] [] (Jv d) (qS (qX 0 [0] [] (tG d)) (qR bL (fun r=>.b r))):=⟨fun m o h=>by
 have e:=@bL.eq_1;unfold FZ at h;simp only[ZC,Jv,Cv];obtain⟨i,h⟩|⟨i,h⟩:=aw h
 ·obtain⟨t,p,h⟩:=ah h;obtain⟨u,q,h⟩:=ah h;have f:=ZA i (bc p);refine ZF f ?_;refine ZSG f (CW.w _ q) ?_;obtain⟨j,h⟩|⟨j,h⟩:=aw h
  ·cases h;exact ZL (ZA f j) e
  ·obtain⟨v,s,h⟩:=ah h;have f:=ZA f j;refine ZF f ?_;refine ZSG f (CW.w _ s) ?_;obtain⟨a,h⟩|⟨a,h⟩:=aw h
   ·cases h;exact ZL (ZA f a) e
   ·obtain⟨c,h⟩|⟨c,h⟩:=aw h
    ·obtain⟨w,k,h⟩:=ah h;obtain⟨g,h⟩|⟨g,h⟩:=aw h
     ·cases h;exact ZL (ZA f (ZA a (ZA c (ZA (bc k) g)))) e
     ·obtain⟨l,h⟩|⟨l,h⟩:=aw h
      ·cases h;exact ZL (ZA f (ZA a (ZA c (ZA (bc k) (ZA g l))))) e
      ·cases h;exact ZL (ZA f (ZA a (ZA c (ZA (bc k) (ZA g l))))) (ZA @Jv.eq_1 @tG.eq_1)
    ·cases h;exact ZL (ZA f (ZA a c)) (ZA @Jv.eq_1 @tG.eq_1)
 ·cases h;exact ZL i (ZA @Jv.eq_1 @tG.eq_1)⟩
instance(a:List az):CW (FC a) (fun(r:Bool)=>Ok A1 219 [.lst .o 2 (a.map (aB .o))] (.b r)):=⟨fun r h=>by
 refine aL br m219 rfl ?_;unfold FC at h;simp only[ZC,A219,bL,aY];obtain⟨c,d,h⟩:=ah h;try refine ZF trivial ?_
 refine bW (o:=c) (co fM (aJ CL.w d ?_)) (fun j hv=>?_) (fun k hv e τ hne hq=>?_)
 ·exact ZK (ZA @Jv.eq_1 @tG.eq_1)
 ·subst hv;simp only[] at h;simp only[ZC,tG,QR];obtain⟨l,g,h⟩:=ah h;refine ZF trivial ?_;refine ZSG trivial (CW.w _ g) ?_;cases h;exact ZL trivial @bL.eq_1
 ·subst hv;simp only[] at h;obtain⟨rfl,i⟩:=hq;cases h;exact i⟩
instance(g:ae)(c:aM):CW (RE g c) (fun(r:Bool)=>Ok A1 243 [(au .o g),(aQ .o c)] (.b r)):=⟨fun r h=>by
 have e:=@aO.eq_1;refine aL br m243 rfl ?_;unfold RE at h;simp only[ZC,A243,aO,aY];obtain⟨s,l,h⟩:=ah h;refine ZF trivial ?_;refine ZSG trivial (CW.w _ l) ?_;obtain⟨a,h⟩|⟨a,h⟩:=aw h
 ·obtain⟨t,m,h⟩:=ah h;refine ZF a ?_;refine ZSG a (CW.w _ m) ?_;obtain⟨d,h⟩|⟨d,h⟩:=aw h
  ·obtain⟨j,h⟩|⟨j,h⟩:=aw h
   ·obtain⟨u,p,h⟩:=ah h;have f:=ZA a (ZA d j);refine ZF f ?_;refine ZSG f (CW.w _ p) ?_;obtain⟨k,h⟩|⟨k,h⟩:=aw h
    ·obtain⟨v,q,h⟩:=ah h;have f:=ZA f k;refine ZF f ?_;refine ZSG f (CW.w _ q) ?_;cases h;exact ZL f e
    ·cases h;exact ZL (ZA f k) e
   ·cases h;exact ZL (ZA a (ZA d j)) e
  ·cases h;exact ZL (ZA a d) e
 ·cases h;exact ZL a e⟩
theorem w_ed(a:aM)(p1Z0:ae){r:Bool}(h:Pu a p1Z0=some r):Ok A1 242 [(aQ .o a),.bp .o (au .o p1Z0) 0] (.b r):=by
 refine aL br m242 rfl ?_;unfold Pu at h;simp only[ZC,A242,rp,aY];obtain⟨d,c,h⟩:=ah h;refine ZF trivial ?_;refine ZSG trivial (CW.w _ c) ?_;cases h;exact ZL trivial @rp.eq_1
instance(a:aM)(p1Z0:ae):CW (Pu a p1Z0) (fun(r:Bool)=>Ok A1 242 [(aQ .o a),.bp .o (au .o p1Z0) 0] (.b r)):=⟨fun r h=>w_ed a p1Z0 h⟩
def Kg(a:List aM)(F_fZ0:Nat)(C_fZ0:List AV)(v:Int):St:=⟨[(0,.lst .o 4 (a.map (aQ .o))),(1,.fn F_fZ0 C_fZ0),(7,.i (a.length:Int)),(8,.i v)],[]⟩
def w_bq(c:List aM)(j:aM->Option Bool)(F_fZ0:Nat)(C_fZ0:List AV)(hC_fZ0:jR C_fZ0)(hf_fZ0:∀(x0:aM)(r:Bool),j x0=some r->Ok A1 F_fZ0 ((.agg [.i x0.N,.i x0.L,.i x0.F,.i x0.W])::C_fZ0) (.b r))(k:Int)(o:Int⊕(Unit⊕Int))(h:IM c j k=some o):AWP (OkS A1) Dc (qL [0,1,7,8] [] (Kg c F_fZ0 C_fZ0) (qS (qX 0 [] [] (ce)) (qR aO (fun r=>.i r))) o) (Kg c F_fZ0 C_fZ0 k):=by
 have e:=ZA @Kg.eq_1 @ce.eq_1;unfold IM at h;simp only[ZC,Kg,Dc];obtain⟨a,h⟩|⟨a,h⟩:=aw h
 ·obtain⟨m,d,h⟩:=ah h;obtain⟨p,l,h⟩:=ah h;have f:=ZA a (bc d);refine ZF f ?_;have f:=ZA f hC_fZ0.1;refine ZSG f (hf_fZ0 _ _ l) ?_;obtain⟨g,h⟩|⟨g,h⟩:=aw h
  ·cases h;exact ZL (ZA a (ZA (bc d) g)) (ZA @aO.eq_1 (ZA hC_fZ0.2 ((bO hC_fZ0))))
  ·cases h;exact ZL (ZA a (ZA (bc d) g)) (ZA e (ZA hC_fZ0.2 ((bO hC_fZ0))))
 ·cases h;exact ZL a (ZA e (ZA hC_fZ0.2 ((bO hC_fZ0))))
def w_gn(a:List aM)(c:aM->Option Bool){r:Int}(h:SE a c=some r)(F_fZ0:Nat)(C_fZ0:List AV)(hC_fZ0:jR C_fZ0)(hf_fZ0:∀(x0:aM)(r:Bool),c x0=some r->Ok A1 F_fZ0 ((.agg [.i x0.N,.i x0.L,.i x0.F,.i x0.W])::C_fZ0) (.b r)):Ok A1 262 [.lst .o 4 (a.map (aQ .o)),.fn F_fZ0 C_fZ0] (.i r):=by
 refine aL br m262 rfl ?_;unfold SE at h;simp only[ZC,A262,aO,aY];obtain⟨d,g,h⟩:=ah h;try refine ZF trivial ?_
 refine bW (o:=d) (co fM (aJ (w_bq a c F_fZ0 C_fZ0 hC_fZ0 hf_fZ0) g ?_)) (fun k hv=>?_) (fun l hv e τ hne hq=>?_)
 ·exact ZK (ZA @Kg.eq_1 (ZA @ce.eq_1 (ZA hC_fZ0.2 ((bO hC_fZ0)))))
 ·subst hv;simp only[] at h;simp only[ZC,ce,Mo];cases h;exact ZL trivial (ZA @aO.eq_1 (ZA hC_fZ0.2 ((bO hC_fZ0))))
 ·subst hv;simp only[] at h;obtain⟨rfl,j⟩:=hq;cases h;exact j
theorem w_ev(a:List aM)(c:aM->Option Bool){r:Bool}(h:Rs a c=some r)(F_fZ0:Nat)(C_fZ0:List AV)(hC_fZ0:jR C_fZ0)(hf_fZ0:∀(x0:aM)(r:Bool),c x0=some r->Ok A1 F_fZ0 ((.agg [.i x0.N,.i x0.L,.i x0.F,.i x0.W])::C_fZ0) (.b r)):Ok A1 241 [.lst .o 4 (a.map (aQ .o)),.fn F_fZ0 C_fZ0] (.b r):=by
 refine aL br m241 rfl ?_;unfold Rs at h;simp only[ZC,A241,aO,aY];obtain⟨g,d,h⟩:=ah h;refine ZF trivial ?_;refine ZSG hC_fZ0.1 (w_gn _ _ d F_fZ0 C_fZ0 hC_fZ0 hf_fZ0) ?_;cases h;exact ZL trivial (ZA @aO.eq_1 (ZA hC_fZ0.2 ((bO hC_fZ0))))
instance(a:ae)(g:List aM):CW (QF a g) (fun(r:Bool)=>Ok A1 220 [(au .o a),.lst .o 4 (g.map (aQ .o))] (.b r)):=⟨fun r h=>by
 refine aL br m220 rfl ?_;unfold QF at h;simp only[ZC,A220,aO,aY];obtain⟨l,i,h⟩:=ah h;refine ZF trivial ?_;refine ZSG trivial (CW.w _ i) ?_;obtain⟨c,h⟩|⟨c,h⟩:=aw h
 ·obtain⟨d,h⟩|⟨d,h⟩:=aw h
  ·obtain⟨m,j,h⟩:=ah h;have f:=ZA c d;refine ZF f ?_;refine ZSG f (w_ev _ _ j 242 [.bp .o (.agg [.lst .o 1 (a.N.map AV.z),.lst .o 4 (a.F.map (aF .o))]) 0] ⟨fun ρ k=>by simp only[VS1,VS2,VS3,VS4,VS5,VS6,VT1,VT2,bC,bB,decide_true,decide_false,B0,A8,du,dr,dq,ne_eq,not_false_eq_true,B1,B2,true_and,false_and,A5,A6,↓reduceIte,reduceCtorEq,A2,A7,A3,B3],by simp[aP,AV.ments]⟩ (fun _ _ h=>w_ed _ _ h)) ?_;cases h;exact ZL f @aO.eq_1
  ·cases h;exact ZL (ZA c d) @aO.eq_1
 ·cases h;exact ZL c @aO.eq_1⟩
theorem w_ee(a:Int)(p1Z0:ae){r:Bool}(h:Qt a p1Z0=some r):Ok A1 263 [.i a,.bp .o (au .o p1Z0) 0] (.b r):=ZO m263 (Qt.eq_1 _ _) trivial (ZA @rp.eq_1 @A263.eq_1) h
instance(a:Int)(p1Z0:ae):CW (Qt a p1Z0) (fun(r:Bool)=>Ok A1 263 [.i a,.bp .o (au .o p1Z0) 0] (.b r)):=⟨fun r h=>w_ee a p1Z0 h⟩
def Od(a:List Int)(F_fZ0:Nat)(C_fZ0:List AV)(v:Int):St:=⟨[(0,.lst .o 1 (a.map AV.i)),(1,.fn F_fZ0 C_fZ0),(7,.i (a.length:Int)),(8,.i v)],[]⟩
def w_br(c:List Int)(j:Int->Option Bool)(F_fZ0:Nat)(C_fZ0:List AV)(hC_fZ0:jR C_fZ0)(hf_fZ0:∀(x0:Int)(r:Bool),j x0=some r->Ok A1 F_fZ0 ((.i x0)::C_fZ0) (.b r))(k:Int)(o:Int⊕(Unit⊕Int))(h:IP c j k=some o):AWP (OkS A1) Cl (qL [0,1,7,8] [] (Od c F_fZ0 C_fZ0) (qS (qX 0 [] [] (ce)) (qR aO (fun r=>.i r))) o) (Od c F_fZ0 C_fZ0 k):=by
 have e:=ZA @Od.eq_1 @ce.eq_1;unfold IP at h;simp only[ZC,Od,Cl];obtain⟨a,h⟩|⟨a,h⟩:=aw h
 ·obtain⟨m,d,h⟩:=ah h;obtain⟨p,l,h⟩:=ah h;have f:=ZA a (bc d);refine ZF f ?_;have f:=ZA f hC_fZ0.1;refine ZSG f (hf_fZ0 _ _ l) ?_;obtain⟨g,h⟩|⟨g,h⟩:=aw h
  ·cases h;exact ZL (ZA a (ZA (bc d) g)) (ZA @aO.eq_1 (ZA hC_fZ0.2 ((bO hC_fZ0))))
  ·cases h;exact ZL (ZA a (ZA (bc d) g)) (ZA e (ZA hC_fZ0.2 ((bO hC_fZ0))))
 ·cases h;exact ZL a (ZA e (ZA hC_fZ0.2 ((bO hC_fZ0))))
def w_go(a:List Int)(c:Int->Option Bool){r:Int}(h:Sm a c=some r)(F_fZ0:Nat)(C_fZ0:List AV)(hC_fZ0:jR C_fZ0)(hf_fZ0:∀(x0:Int)(r:Bool),c x0=some r->Ok A1 F_fZ0 ((.i x0)::C_fZ0) (.b r)):Ok A1 217 [.lst .o 1 (a.map AV.i),.fn F_fZ0 C_fZ0] (.i r):=by
 refine aL br m217 rfl ?_;unfold Sm at h;simp only[ZC,A217,aO,aY];obtain⟨d,g,h⟩:=ah h;try refine ZF trivial ?_
 refine bW (o:=d) (co fM (aJ (w_br a c F_fZ0 C_fZ0 hC_fZ0 hf_fZ0) g ?_)) (fun k hv=>?_) (fun l hv e τ hne hq=>?_)
 ·exact ZK (ZA @Od.eq_1 (ZA @ce.eq_1 (ZA hC_fZ0.2 ((bO hC_fZ0)))))
 ·subst hv;simp only[] at h;simp only[ZC,ce,Ks];cases h;exact ZL trivial (ZA @aO.eq_1 (ZA hC_fZ0.2 ((bO hC_fZ0))))
 ·subst hv;simp only[] at h;obtain⟨rfl,j⟩:=hq;cases h;exact j
theorem w_ew(a:List Int)(c:Int->Option Bool){r:Bool}(h:Ml a c=some r)(F_fZ0:Nat)(C_fZ0:List AV)(hC_fZ0:jR C_fZ0)(hf_fZ0:∀(x0:Int)(r:Bool),c x0=some r->Ok A1 F_fZ0 ((.i x0)::C_fZ0) (.b r)):Ok A1 177 [.lst .o 1 (a.map AV.i),.fn F_fZ0 C_fZ0] (.b r):=by
 refine aL br m177 rfl ?_;unfold Ml at h;simp only[ZC,A177,aO,aY];obtain⟨g,d,h⟩:=ah h;refine ZF trivial ?_;refine ZSG hC_fZ0.1 (w_go _ _ d F_fZ0 C_fZ0 hC_fZ0 hf_fZ0) ?_;cases h;exact ZL trivial (ZA @aO.eq_1 (ZA hC_fZ0.2 ((bO hC_fZ0))))
instance(a:ae)(d:List Int):CW (MI a d) (fun(r:Bool)=>Ok A1 244 [(au .o a),.lst .o 1 (d.map AV.i)] (.b r)):=⟨fun r h=>by
 refine aL br m244 rfl ?_;unfold MI at h;simp only[ZC,A244,aO,aY];obtain⟨l,g,h⟩:=ah h;refine ZF trivial ?_;refine ZSG trivial (CW.w _ g) ?_;obtain⟨c,h⟩|⟨c,h⟩:=aw h
 ·obtain⟨m,j,h⟩:=ah h;refine ZF c ?_;refine ZSG c (w_ew _ _ j 263 [.bp .o (.agg [.lst .o 1 (a.N.map AV.z),.lst .o 4 (a.F.map (aF .o))]) 0] ⟨fun ρ k=>by simp only[VS1,VS2,VS3,VS4,VS5,VS6,VT1,VT2,bC,bB,decide_true,decide_false,B0,A8,du,dr,dq,ne_eq,not_false_eq_true,B1,B2,true_and,false_and,A5,A6,↓reduceIte,reduceCtorEq,A2,A7,A3,B3],by simp[aP,AV.ments]⟩ (fun _ _ h=>w_ee _ _ h)) ?_;cases h;exact ZL c @aO.eq_1
 ·cases h;exact ZL c @aO.eq_1⟩
instance(b:List Int):CW (JO b) (fun(r:List Int)=>Ok A1 80 [.lst .o 1 (b.map AV.i)] (.lst .u 1 (r.map AV.i))):=⟨fun r h=>by
 refine aL br m80 rfl ?_;unfold JO at h;simp only[ZC,A80,bL,aY];obtain⟨a,h⟩|⟨a,h⟩:=aw h
 ·refine ZF a ?_;refine A0 ?_ ?_
  ·replace h:=afr h;cases h;exact ZL a @bL.eq_1
  ·replace h:=afq h;obtain⟨g,c,h⟩:=ah h;cases h;exact ZL (ZA a (ba c)) @bL.eq_1
 ·obtain⟨j,d,h⟩:=ah h;cases h;exact ZL (ZA a (ba d)) @bL.eq_1⟩
def S_x(b:Int)(c:Int)(d:List Int)(a:ae)(v:Int×Int×List ai×Int×ae):St:=⟨[(0,.i b),(1,.i c),(2,.lst .m 1 (d.map AV.i)),(7,.pt 1000000006 0 0),(25,.lst .o 4 (((a).F).map (aF .o))),(26,.i (((a).F).length:Int)),(27,.i v.1)],[(470000128,.arr 2 (v.2.2.1.map (ax .u))),(1000000001,.var (.i v.2.1)),(1000000002,.var (.sl 470000128 0 v.2.2.1.length)),(1000000004,.var (.i v.2.2.2.1)),(1000000005,.var (au .o v.2.2.2.2)),(1000000006,.var (.fn 264 [.pt 1000000001 0 0,.pt 1000000002 0 0,.pt 1000000004 0 0,.pt 1000000005 0 0,.pt 1000000006 0 0]))]⟩
def Ta(v:Int×List ai×Int×ae):St:=⟨[],[(470000128,.arr 2 (v.2.1.map (ax .u))),(1000000001,.var (.i v.1)),(1000000002,.var (.sl 470000128 0 v.2.1.length)),(1000000004,.var (.i v.2.2.1)),(1000000005,.var (au .o v.2.2.2)),(1000000006,.var (.fn 264 [.pt 1000000001 0 0,.pt 1000000002 0 0,.pt 1000000004 0 0,.pt 1000000005 0 0,.pt 1000000006 0 0]))]⟩
def w_x(g:Int)(j:Int)(a:List Int)(p:Int)(k:List ai)(q:Int)(d:ae)(b1:Int->Int->List Int->Int->List ai->Int->ae->Option (Int×List ai×Int×ae))(l1:∀(g:Int)(j:Int)(a:List Int)(p:Int)(k:List ai)(q:Int)(d:ae){r:Int×List ai×Int×ae},b1 g j a p k q d=some r->OkM A1 264 [.i g,.i j,.sl 1000000000 0 a.length,.pt 1000000001 0 0,.pt 1000000002 0 0,.pt 1000000004 0 0,.pt 1000000005 0 0,.pt 1000000006 0 0] [(1000000000,.arr 1 (a.map AV.i)),(1000000001,.var (.i p)),(1000000002,.var (.sl 1000000003 0 k.length)),(1000000003,.arr 2 (k.map (ax .u))),(1000000004,.var (.i q)),(1000000005,.var (.agg [.lst .o 1 (((d).N).map AV.z),.lst .o 4 (((d).F).map (aF .o))])),(1000000006,.var (.fn 264 [.pt 1000000001 0 0,.pt 1000000002 0 0,.pt 1000000004 0 0,.pt 1000000005 0 0,.pt 1000000006 0 0]))] (.tup []) ([(470000128,.arr 2 (r.2.1.map (ax .u))),(1000000001,.var (.i r.1)),(1000000002,.var (.sl 470000128 0 r.2.1.length)),(1000000004,.var (.i r.2.2.1)),(1000000005,.var (.agg [.lst .o 1 (((r.2.2.2).N).map AV.z),.lst .o 4 (((r.2.2.2).F).map (aF .o))])),(1000000006,.var (.fn 264 [.pt 1000000001 0 0,.pt 1000000002 0 0,.pt 1000000004 0 0,.pt 1000000005 0 0,.pt 1000000006 0 0]))]))(c:Int×Int×List ai×Int×ae)(o:(Int×Int×List ai×Int×ae)⊕(Int×List ai×Int×ae))(h:M_x g j a d b1 c=some o):AWP (OkS A1) qi (qL [0,1,2,7,25,26,27] [470000128,1000000001,1000000002,1000000004,1000000005,1000000006] (S_x g j a d) (qX 0 [] [470000128,1000000001,1000000002,1000000004,1000000005,1000000006] (Ta)) o) (S_x g j a d c):=by
 have e:=ZA @S_x.eq_1 @Ta.eq_1;unfold M_x at h;simp only[ZC,S_x,qi];obtain⟨t,h⟩|⟨t,h⟩:=aw h
 ·obtain⟨b2,m1,h⟩:=ah h;obtain⟨p1,q1,h⟩:=ah h;have f:=ZA t (bc m1);refine ZF f ?_;refine ZSG f (CW.w _ q1) ?_;obtain⟨s1,t1,h⟩:=ah h;try refine ZF f ?_
  refine aD (sh:=(fun v=>⟨[(0,.i g),(1,.i j),(2,.lst .m 1 (a.map AV.i)),(7,.pt 1000000006 0 0),(11,.i c.1),(13,.i p1),(25,.lst .o 4 (((d).F).map (aF .o))),(26,.i (((d).F).length:Int)),(27,.i c.1),(43,.b v)],[(470000128,.arr 2 (c.2.2.1.map (ax .u))),(1000000001,.var (.i c.2.1)),(1000000002,.var (.sl 470000128 0 c.2.2.1.length)),(1000000004,.var (.i c.2.2.2.1)),(1000000005,.var (au .o c.2.2.2.2)),(1000000006,.var (.fn 264 [.pt 1000000001 0 0,.pt 1000000002 0 0,.pt 1000000004 0 0,.pt 1000000005 0 0,.pt 1000000006 0 0]))]⟩)) (s:=s1) ?_ ?_
  ·replace h:=t1;obtain⟨w,h⟩|⟨w,h⟩:=aw h
   ·obtain⟨c2,u1,h⟩:=ah h;cases h;exact ZL (ZA f (ZA w (ba u1))) trivial
   ·cases h;exact ZL (ZA f w) trivial
  ·simp only[ZC,xC];obtain⟨x,h⟩|⟨x,h⟩:=aw h
   ·obtain⟨d2,v1,h⟩:=ah h;have c1:(0:Int)<=(a.length:Int):=Int.natCast_nonneg _;obtain⟨y,l,h⟩:=bf h;have w1:Row.arr 1 [(.i c.1:AV)]=Row.arr 1 (y.map AV.i):=by rw[<-l];rfl
    have d1:y.length=1:=by rw[<-l];rfl
    obtain⟨g2,y1,h⟩:=ah h;have g1:=ba y1;obtain⟨i1,a1,h⟩:=bf h;have z1:a.map AV.i++y.map AV.i=i1.map AV.i:=by rw[<-a1,A4]
    have j1:a.length+1=i1.length:=by simp[<-l,<-a1]<;>omega
    rw[j1] at g1;have k1:(0:Nat)<1:=by decide
    obtain⟨i2,a2,h⟩:=ah h;have f:=ZA f (ZA x (ZA (ba v1) (ZA c1 (ZA w1 (ZA d1 (ZA g1 (ZA z1 (ZA j1 k1))))))));refine ZF f ?_;refine ZWG f (l1 _ _ _ _ _ _ _ a2) [470000128,1000000001,1000000002,1000000004,1000000005,1000000006] [476000128] ?_;cases h;exact ZL f (ZA e (ZA l.symm (ZA a1.symm (ZA c1 (ZA d1 k1)))))
   ·cases h;exact ZL (ZA f x) e
 ·cases h;exact ZL t e
def agv(m:Int->Int->List Int->Int->List ai->Int->ae->Option (Int×List ai×Int×ae))(t:∀(g:Int)(j:Int)(b:List Int)(k:Int)(a:List ai)(d:Int)(c:ae){r:Int×List ai×Int×ae},m g j b k a d c=some r->OkM A1 264 [.i g,.i j,.sl 1000000000 0 b.length,.pt 1000000001 0 0,.pt 1000000002 0 0,.pt 1000000004 0 0,.pt 1000000005 0 0,.pt 1000000006 0 0] [(1000000000,.arr 1 (b.map AV.i)),(1000000001,.var (.i k)),(1000000002,.var (.sl 1000000003 0 a.length)),(1000000003,.arr 2 (a.map (ax .u))),(1000000004,.var (.i d)),(1000000005,.var (.agg [.lst .o 1 (((c).N).map AV.z),.lst .o 4 (((c).F).map (aF .o))])),(1000000006,.var (.fn 264 [.pt 1000000001 0 0,.pt 1000000002 0 0,.pt 1000000004 0 0,.pt 1000000005 0 0,.pt 1000000006 0 0]))] (.tup []) ([(470000128,.arr 2 (r.2.1.map (ax .u))),(1000000001,.var (.i r.1)),(1000000002,.var (.sl 470000128 0 r.2.1.length)),(1000000004,.var (.i r.2.2.1)),(1000000005,.var (.agg [.lst .o 1 (((r.2.2.2).N).map AV.z),.lst .o 4 (((r.2.2.2).F).map (aF .o))])),(1000000006,.var (.fn 264 [.pt 1000000001 0 0,.pt 1000000002 0 0,.pt 1000000004 0 0,.pt 1000000005 0 0,.pt 1000000006 0 0]))]))(g:Int)(j:Int)(b:List Int)(k:Int)(a:List ai)(d:Int)(c:ae){r:Int×List ai×Int×ae}(h:Qb m g j b k a d c=some r):OkM A1 264 [.i g,.i j,.sl 1000000000 0 b.length,.pt 1000000001 0 0,.pt 1000000002 0 0,.pt 1000000004 0 0,.pt 1000000005 0 0,.pt 1000000006 0 0] [(1000000000,.arr 1 (b.map AV.i)),(1000000001,.var (.i k)),(1000000002,.var (.sl 1000000003 0 a.length)),(1000000003,.arr 2 (a.map (ax .u))),(1000000004,.var (.i d)),(1000000005,.var (au .o c)),(1000000006,.var (.fn 264 [.pt 1000000001 0 0,.pt 1000000002 0 0,.pt 1000000004 0 0,.pt 1000000005 0 0,.pt 1000000006 0 0]))] (.tup []) ([(470000128,.arr 2 (r.2.1.map (ax .u))),(1000000001,.var (.i r.1)),(1000000002,.var (.sl 470000128 0 r.2.1.length)),(1000000004,.var (.i r.2.2.1)),(1000000005,.var (.agg [.lst .o 1 (((r.2.2.2).N).map AV.z),.lst .o 4 (((r.2.2.2).F).map (aF .o))])),(1000000006,.var (.fn 264 [.pt 1000000001 0 0,.pt 1000000002 0 0,.pt 1000000004 0 0,.pt 1000000005 0 0,.pt 1000000006 0 0]))]):=by
 refine aZ (lr:=[470000128,1000000001,1000000002,1000000004,1000000005,1000000006]) br YG rfl rfl ?_;unfold Qb at h;simp only[ZC,KN,bP];obtain⟨l,h⟩|⟨l,h⟩:=aw h
 ·obtain⟨c1,d1,h⟩:=ah h;refine ZF l ?_;refine ZUG l (CW.w _ d1) ?_;obtain⟨q,p,h⟩:=bf h;have g1:Row.arr 2 [(.agg [.i d,.lst .u 1 (c1.map AV.i)]:AV)]=Row.arr 2 (q.map (ax .u)):=by rw[<-p];rfl
  have v:q.length=1:=by rw[<-p];rfl
  obtain⟨k1,i1,h⟩:=ah h;have w:=ba i1;obtain⟨x,s,h⟩:=bf h;have j1:a.map (ax .u)++q.map (ax .u)=x.map (ax .u):=by rw[<-s,A4]
  have y:a.length+1=x.length:=by simp[<-p,<-s]<;>omega
  rw[y] at w;cases h;exact ZL (ZA l (ZA g1 (ZA v (ZA w (ZA j1 y))))) (ZA @bP.eq_1 (ZA p.symm (ZA s.symm v)))
 ·obtain⟨l1,a1,h⟩:=ah h;try refine ZF l ?_
  first|refine dz (bb (aJ (w_x g j b k a d c m t) a1 ?_)) (fun τ b1=>?_)|refine eC (aJ (w_x g j b k a d c m t) a1 ?_) (fun τ b1=>?_)
  ·exact ZK (ZA @S_x.eq_1 @Ta.eq_1)
  ·cases h;refine gW b1 (by decide) ?_ rfl;exact ZK (ZA @bP.eq_1 @Ta.eq_1)
theorem w_dd:∀(n:Nat)(d:Int)(g:Int)(a:List Int)(j:Int)(b:List ai)(k:Int)(c:ae){r:Int×List ai×Int×ae}(_:Ie n d g a j b k c=some r),OkM A1 264 [.i d,.i g,.sl 1000000000 0 a.length,.pt 1000000001 0 0,.pt 1000000002 0 0,.pt 1000000004 0 0,.pt 1000000005 0 0,.pt 1000000006 0 0] [(1000000000,.arr 1 (a.map AV.i)),(1000000001,.var (.i j)),(1000000002,.var (.sl 1000000003 0 b.length)),(1000000003,.arr 2 (b.map (ax .u))),(1000000004,.var (.i k)),(1000000005,.var (.agg [.lst .o 1 (((c).N).map AV.z),.lst .o 4 (((c).F).map (aF .o))])),(1000000006,.var (.fn 264 [.pt 1000000001 0 0,.pt 1000000002 0 0,.pt 1000000004 0 0,.pt 1000000005 0 0,.pt 1000000006 0 0]))] ((fun(r:Int×List ai×Int×ae)=>.tup []) r) ((fun(r:Int×List ai×Int×ae)=>[(470000128,.arr 2 (r.2.1.map (ax .u))),(1000000001,.var (.i r.1)),(1000000002,.var (.sl 470000128 0 r.2.1.length)),(1000000004,.var (.i r.2.2.1)),(1000000005,.var (.agg [.lst .o 1 (((r.2.2.2).N).map AV.z),.lst .o 4 (((r.2.2.2).F).map (aF .o))])),(1000000006,.var (.fn 264 [.pt 1000000001 0 0,.pt 1000000002 0 0,.pt 1000000004 0 0,.pt 1000000005 0 0,.pt 1000000006 0 0]))]) r)
 |0,d,g,a,j,b,k,c,_,h=>by cases h
 |n+1,d,g,a,j,b,k,c,_,h=>agv (Ie n) (w_dd n) d g a j b k c h
def Vi(b:Int)(c:Int)(d:List Int)(a:ae)(v:Int×Int×List ai×Int×ae):St:=⟨[(0,.i b),(1,.i c),(2,.lst .u 1 (d.map AV.i)),(7,.pt 1000000005 0 0),(25,.lst .o 4 (((a).F).map (aF .o))),(26,.i (((a).F).length:Int)),(27,.i v.1)],[(470000064,.arr 2 (v.2.2.1.map (ax .u))),(1000000000,.var (.i v.2.1)),(1000000001,.var (.sl 470000064 0 v.2.2.1.length)),(1000000003,.var (.i v.2.2.2.1)),(1000000004,.var (au .o v.2.2.2.2)),(1000000005,.var (.fn 264 [.pt 1000000000 0 0,.pt 1000000001 0 0,.pt 1000000003 0 0,.pt 1000000004 0 0,.pt 1000000005 0 0]))]⟩
def DB(v:Int×List ai×Int×ae):St:=⟨[],[(470000064,.arr 2 (v.2.1.map (ax .u))),(1000000000,.var (.i v.1)),(1000000001,.var (.sl 470000064 0 v.2.1.length)),(1000000003,.var (.i v.2.2.1)),(1000000004,.var (au .o v.2.2.2)),(1000000005,.var (.fn 264 [.pt 1000000000 0 0,.pt 1000000001 0 0,.pt 1000000003 0 0,.pt 1000000004 0 0,.pt 1000000005 0 0]))]⟩
instance(g:Int)(j:Int)(c:List Int)(d:ae):CL (ZB g j c d) qd [0,1,2,7,25,26,27] [470000064,1000000000,1000000001,1000000003,1000000004,1000000005] (Vi g j c d) (qX 0 [] [470000064,1000000000,1000000001,1000000003,1000000004,1000000005] (DB)):=⟨fun a o h=>by
 have e:=ZA @Vi.eq_1 @DB.eq_1;unfold ZB at h;simp only[ZC,Vi,qd];obtain⟨l,h⟩|⟨l,h⟩:=aw h
 ·obtain⟨u1,d1,h⟩:=ah h;obtain⟨g1,i1,h⟩:=ah h;have f:=ZA l (bc d1);refine ZF f ?_;refine ZSG f (CW.w _ i1) ?_;obtain⟨j1,k1,h⟩:=ah h;try refine ZF f ?_
  refine aD (sh:=(fun v=>⟨[(0,.i g),(1,.i j),(2,.lst .u 1 (c.map AV.i)),(7,.pt 1000000005 0 0),(11,.i a.1),(13,.i g1),(25,.lst .o 4 (((d).F).map (aF .o))),(26,.i (((d).F).length:Int)),(27,.i a.1),(43,.b v)],[(470000064,.arr 2 (a.2.2.1.map (ax .u))),(1000000000,.var (.i a.2.1)),(1000000001,.var (.sl 470000064 0 a.2.2.1.length)),(1000000003,.var (.i a.2.2.2.1)),(1000000004,.var (au .o a.2.2.2.2)),(1000000005,.var (.fn 264 [.pt 1000000000 0 0,.pt 1000000001 0 0,.pt 1000000003 0 0,.pt 1000000004 0 0,.pt 1000000005 0 0]))]⟩)) (s:=j1) ?_ ?_
  ·replace h:=k1;obtain⟨m,h⟩|⟨m,h⟩:=aw h
   ·obtain⟨v1,l1,h⟩:=ah h;cases h;exact ZL (ZA f (ZA m (ba l1))) trivial
   ·cases h;exact ZL (ZA f m) trivial
  ·simp only[ZC,zf];obtain⟨p,h⟩|⟨p,h⟩:=aw h
   ·obtain⟨w1,m1,h⟩:=ah h;have w:(0:Int)<=(c.length:Int):=Int.natCast_nonneg _;obtain⟨q,k,h⟩:=bf h;have p1:Row.arr 1 [(.i a.1:AV)]=Row.arr 1 (q.map AV.i):=by rw[<-k];rfl
    have x:q.length=1:=by rw[<-k];rfl
    obtain⟨y1,q1,h⟩:=ah h;have y:=ba q1;obtain⟨a1,t,h⟩:=bf h;have s1:c.map AV.i++q.map AV.i=a1.map AV.i:=by rw[<-t,A4]
    have b1:c.length+1=a1.length:=by simp[<-k,<-t]<;>omega
    rw[b1] at y;have c1:(0:Nat)<1:=by decide
    obtain⟨z1,t1,h⟩:=ah h;have f:=ZA f (ZA p (ZA (ba m1) (ZA w (ZA p1 (ZA x (ZA y (ZA s1 (ZA b1 c1))))))));refine ZF f ?_;refine ZWG f (w_dd N0 _ _ _ _ _ _ _ t1) [470000128,1000000001,1000000002,1000000004,1000000005,1000000006] [476000128] ?_;cases h;exact ZL f (ZA e (ZA k.symm (ZA t.symm (ZA w (ZA x c1)))))
   ·cases h;exact ZL (ZA f p) e
 ·cases h;exact ZL l e⟩
instance(d:Int)(g:Int)(j:List Int)(q:Int)(a:List ai)(l:Int)(b:ae):CW (Wb d g j q a l b) (fun(r:Int×List ai×Int×ae)=>OkM A1 264 [.i d,.i g,.lst .u 1 (j.map AV.i),.pt 1000000000 0 0,.pt 1000000001 0 0,.pt 1000000003 0 0,.pt 1000000004 0 0,.pt 1000000005 0 0] [(1000000000,.var (.i q)),(1000000001,.var (.sl 1000000002 0 a.length)),(1000000002,.arr 2 (a.map (ax .u))),(1000000003,.var (.i l)),(1000000004,.var (au .o b)),(1000000005,.var (.fn 264 [.pt 1000000000 0 0,.pt 1000000001 0 0,.pt 1000000003 0 0,.pt 1000000004 0 0,.pt 1000000005 0 0]))] (.tup []) ([(470000064,.arr 2 (r.2.1.map (ax .u))),(1000000000,.var (.i r.1)),(1000000001,.var (.sl 470000064 0 r.2.1.length)),(1000000003,.var (.i r.2.2.1)),(1000000004,.var (.agg [.lst .o 1 (((r.2.2.2).N).map AV.z),.lst .o 4 (((r.2.2.2).F).map (aF .o))])),(1000000005,.var (.fn 264 [.pt 1000000000 0 0,.pt 1000000001 0 0,.pt 1000000003 0 0,.pt 1000000004 0 0,.pt 1000000005 0 0]))])):=⟨fun r h=>by
 refine aZ (lr:=[470000064,1000000000,1000000001,1000000003,1000000004,1000000005]) br abo rfl rfl ?_;unfold Wb at h;simp only[ZC,Ns,bP];obtain⟨c,h⟩|⟨c,h⟩:=aw h
 ·obtain⟨a1,b1,h⟩:=ah h;refine ZF c ?_;refine ZUG c (CW.w _ b1) ?_;obtain⟨m,k,h⟩:=bf h;have c1:Row.arr 2 [(.agg [.i l,.lst .u 1 (a1.map AV.i)]:AV)]=Row.arr 2 (m.map (ax .u)):=by rw[<-k];rfl
  have s:m.length=1:=by rw[<-k];rfl
  obtain⟨i1,d1,h⟩:=ah h;have t:=ba d1;obtain⟨v,p,h⟩:=bf h;have g1:a.map (ax .u)++m.map (ax .u)=v.map (ax .u):=by rw[<-p,A4]
  have w:a.length+1=v.length:=by simp[<-k,<-p]<;>omega
  rw[w] at t;cases h;exact ZL (ZA c (ZA c1 (ZA s (ZA t (ZA g1 w))))) (ZA @bP.eq_1 (ZA k.symm (ZA p.symm s)))
 ·obtain⟨j1,x,h⟩:=ah h;try refine ZF c ?_
  first|refine dz (bb (aJ CL.w x ?_)) (fun τ y=>?_)|refine eC (aJ CL.w x ?_) (fun τ y=>?_)
  ·exact ZK (ZA @Vi.eq_1 @DB.eq_1)
  ·cases h;refine gW y (by decide) ?_ rfl;exact ZK (ZA @bP.eq_1 @DB.eq_1)⟩
def Vp(a:ae)(b:ai)(v:Int×Int):St:=⟨[(2,.pt 2 0 0),(5,.i v.1),(9,.lst .o 1 (b.F.map AV.i)),(10,.i (b.F.length:Int)),(11,.i v.2)],[(2,.var (au .o a))]⟩
instance(a:ae)(b:ai):CL (abq a b) wl [2,5,9,10,11] [2] (Vp a b) (qX 0 [5] [] (nl)):=⟨fun d o h=>by
 unfold abq at h;simp only[ZC,Vp,wl];exact ZT trivial (ZA @Vp.eq_1 (ZA @nl.eq_1 @wl.eq_1)) h⟩
instance(a:ae)(b:ai):CW (Gn a b) (fun(r:Int)=>Ok A1 223 [(au .o a),(ax .o b)] (.i r)):=⟨fun r h=>ZO m223 (Gn.eq_1 _ _) ZJ (ZA @Vp.eq_1 (ZA @nl.eq_1 (ZA @NP.eq_1 (ZA @aO.eq_1 @A223.eq_1)))) h⟩
def Ua(s1Z0:List Int)(s2Z0:List Int)(v:Int):St:=⟨[(0,.lst .o 1 (s1Z0.map AV.i)),(1,.lst .o 1 (s2Z0.map AV.i)),(9,.lst .o 1 (s1Z0.map AV.i)),(10,.i (s1Z0.length:Int)),(11,.i v)],[]⟩
def JZ(s1Z0:List Int)(s2Z0:List Int)(v:Unit):St:=⟨[(0,.lst .o 1 (s1Z0.map AV.i)),(1,.lst .o 1 (s2Z0.map AV.i))],[]⟩
instance(s1Z0:List Int)(s2Z0:List Int):CL (HR s1Z0 s2Z0) Dn [0,1,9,10,11] [] (Ua s1Z0 s2Z0) (qS (qX 0 [0,1] [] (JZ s1Z0 s2Z0)) (qR aO (fun r=>.i r))):=⟨fun d o h=>by
 unfold HR at h;simp only[ZC,Ua,Dn];exact ZT trivial (ZA @aO.eq_1 (ZA @Ua.eq_1 @JZ.eq_1)) h⟩
instance(s1Z0:List Int)(s2Z0:List Int):CW (Ly s1Z0 s2Z0) (fun(r:Int)=>Ok A1 225 [.lst .o 1 (s1Z0.map AV.i),.lst .o 1 (s2Z0.map AV.i)] (.i r)):=⟨fun r h=>ZO m225 (Ly.eq_1 _ _) ZJ (ZA @Ua.eq_1 (ZA @JZ.eq_1 (ZA @NN.eq_1 (ZA @aO.eq_1 @A225.eq_1)))) h⟩
instance(c:ae)(d:ai)(g:ai):CW (vd c d g) (fun(r:Int)=>Ok A1 190 [(au .o c),(ax .o d),(ax .o g)] (.i r)):=⟨fun r h=>ZO m190 (vd.eq_1 _ _ _) ZJB (ZA @dx.eq_1 @A190.eq_1) h⟩
theorem w_de(a:ai)(b:ai)(p2Z0:ae){r:Int}(h:xI a b p2Z0=some r):Ok A1 266 [(ax .o a),(ax .o b),.bp .o (au .o p2Z0) 0] (.i r):=ZO m266 (xI.eq_1 _ _ _) trivial (ZA @Au.eq_1 @A266.eq_1) h
instance(a:ai)(b:ai)(p2Z0:ae):CW (xI a b p2Z0) (fun(r:Int)=>Ok A1 266 [(ax .o a),(ax .o b),.bp .o (au .o p2Z0) 0] (.i r)):=⟨fun r h=>w_de a b p2Z0 h⟩
instance(b:ae)(g:Int)(j:Int):CW (MX b g j) (fun(r:List ai)=>Ok A1 245 [(au .o b),.i g,.i j] (.lst .u 2 (r.map (ax .u)))):=⟨fun r h=>by
 refine aL br m245 rfl ?_;unfold MX at h;simp only[ZC,A245,dx,aY];obtain⟨a,m,h⟩:=ah h;try refine ZF trivial ?_
 refine aD (sh:=(fun v=>⟨[(3,.pt 3 0 0),(7,.pt 7 0 0)],[(3,.var (au .o v.1)),(7,.var (.sl 500000448 0 v.2.length)),(500000448,.arr 2 (v.2.map (ax .u)))]⟩)) (s:=a) ?_ ?_
 ·replace h:=m;obtain⟨c,h⟩|⟨c,h⟩:=aw h
  ·obtain⟨w,p,h⟩:=ah h;obtain⟨x,q,h⟩:=ah h;have f:=ZA c (ba p);refine ZF f ?_;refine ZWG f (CW.w _ q) [470000064,1000000000,1000000001,1000000003,1000000004,1000000005] [471900064] ?_;cases h;exact ZL f trivial
  ·cases h;exact ZL c trivial
 ·simp only[ZC,Ko];obtain⟨d,k,h⟩:=ah h;have l:d.length=a.2.length:=ld k;refine ZF trivial ?_;refine kn (by simp only[VS1,VS2,VS3,VS4,VS5,VS6,VT1,VT2,bC,bB,decide_true,decide_false,B0,A8,du,dr,dq,ne_eq,not_false_eq_true,B1,B2,true_and,false_and,A5,A6,↓reduceIte,reduceCtorEq,A2,A7,A3,B3];exact(PN Tt (ax .u) (qN .u) (xs:=a.2) (cmp:=(fun x0 x1=>xI x0 x1 a.1)) (C:=[.bp .o (.agg [.lst .o 1 (a.1.N.map AV.z),.lst .o 4 (a.1.F.map (aF .o))]) 0]) (by simp[B8]) (by simp only[VS1,VS2,VS3,VS4,VS5,VS6,VT1,VT2,bC,bB,decide_true,decide_false,B0,A8,du,dr,dq,ne_eq,not_false_eq_true,B1,B2,true_and,false_and,A5,A6,↓reduceIte,reduceCtorEq,A2,A7,A3,B3,List.map_cons,List.map_nil]) rfl (by simp[Wf,VS1,VS2,VS3,VS4,VS5,VS6,VT1,VT2]) (by simp[VS1,VS2,VS3,VS4,VS5,VS6,VT1,VT2]) ((aal m266)) (fun _ _ _ hq=>by simp only[gH,VS1,VS2,VS3,VS4,VS5,VS6,VT1,VT2,bC,bB,decide_true,decide_false,B0,A8,du,dr,dq,ne_eq,not_false_eq_true,B1,B2,true_and,false_and,A5,A6,↓reduceIte,reduceCtorEq,A2,A7,A3,B3];exact w_de _ _ _ hq) k)) (by simp[VS1,VS2,VS3,VS4,VS5,VS6,VT1,VT2]) (by first|exact zC [1000000000,1000000001] rfl (by decide+kernel)|simp[VS1,VS2,VS3,VS4,VS5,VS6,VT1,VT2]) ?_;refine ZG ?_;have t:sub (d.map (ax .u)) 0 a.2.length=d.map (ax .u):=nC _ (by simp[l]);cases h;exact ZL t (ZA @dx.eq_1 l)⟩
instance(c:ae)(g:Int)(j:Int):CW (Hj c g j) (fun(r:List ai×Bool)=>Ok A1 221 [(au .o c),.i g,.i j] (.tup [.lst .u 2 (r.1.map (ax .u)),.b r.2])):=⟨fun r h=>by
 refine aL br m221 rfl ?_;unfold Hj at h;simp only[ZC,A221,io,aY];obtain⟨q,t,h⟩:=ah h;try refine ZF trivial ?_
 refine aD (sh:=(fun v=>⟨[(1,.i g),(2,.i j),(3,.pt 3 0 0),(19,.b v)],[(3,.var (au .o c))]⟩)) (s:=q) ?_ ?_
 ·replace h:=t;obtain⟨k,d,h⟩:=bf h;have w:Row.arr 1 [(.i g:AV),(.i j:AV)]=Row.arr 1 (k.map AV.i):=by rw[<-d];rfl
  have l:k.length=2:=by rw[<-d];rfl
  have x:sub (k.map AV.i) 0 2=k.map AV.i:=nC _ (by simp[<-d]);obtain⟨b1,y,h⟩:=ah h;have f:=ZA w (ZA l x);refine ZF f ?_;refine ZSG f (CW.w _ y) ?_;obtain⟨m,h⟩|⟨m,h⟩:=aw h
  ·cases h;exact ZL (ZA f m) (ZA d.symm l)
  ·cases h;exact ZL (ZA f m) (ZA d.symm l)
 ·simp only[ZC,Lo];obtain⟨a,h⟩|⟨a,h⟩:=aw h
  ·cases h;exact ZL a @io.eq_1
  ·obtain⟨c1,a1,h⟩:=ah h;refine ZF a ?_;refine ZUG a (CW.w _ a1) ?_;obtain⟨p,h⟩|⟨p,h⟩:=aw h
   ·cases h;exact ZL (ZA a p) @io.eq_1
   ·cases h;exact ZL (ZA a p) @io.eq_1⟩
def Ue(a:List az)(b:Int)(v:Int):St:=⟨[(0,.lst .o 2 (a.map (aB .o))),(1,.i b),(6,.i v)],[]⟩
instance(c:List az)(d:Int):CL (NT c d) Da [0,1,6] [] (Ue c d) (qS (qX 0 [] [] (ce)) (qR nD (fun r=>.tup [.i r.1,.b r.2]))):=⟨fun j o h=>by
 have e:=ZA @Ue.eq_1 @ce.eq_1;unfold NT at h;simp only[ZC,Ue,Da];obtain⟨a,h⟩|⟨a,h⟩:=aw h
 ·obtain⟨l,k,h⟩:=ah h;obtain⟨g,h⟩|⟨g,h⟩:=aw h
  ·cases h;exact ZL (ZA a (ZA (bc k) g)) @nD.eq_1
  ·cases h;exact ZL (ZA a (ZA (bc k) g)) e
 ·cases h;exact ZL a e⟩
instance(c:List az)(d:Int):CW (Qi c d) (fun(r:Int×Bool)=>Ok A1 246 [.lst .o 2 (c.map (aB .o)),.i d] (.tup [.i r.1,.b r.2])):=⟨fun r h=>by
 refine aL br m246 rfl ?_;unfold Qi at h;simp only[ZC,A246,nD,aY];obtain⟨j,k,h⟩:=ah h;try refine ZF trivial ?_
 refine aD (sh:=(fun v=>⟨[(0,.lst .o 2 (c.map (aB .o))),(1,.i d),(14,.b v)],[]⟩)) (s:=j) ?_ ?_
 ·replace h:=k;obtain⟨u,l,h⟩:=ah h;refine ZF trivial ?_;refine ZSG trivial (CW.w _ l) ?_;obtain⟨a,h⟩|⟨a,h⟩:=aw h
  ·cases h;exact ZL a trivial
  ·obtain⟨w,m,h⟩:=ah h;refine ZF a ?_;refine ZSG a (CW.w _ m) ?_;cases h;exact ZL a trivial
 ·simp only[ZC,Le];obtain⟨g,h⟩|⟨g,h⟩:=aw h
  ·cases h;exact ZL g @nD.eq_1
  ·obtain⟨p,q,h⟩:=ah h;try refine ZF g ?_
   refine bW (o:=p) (co fM (aJ CL.w q ?_)) (fun x hv=>?_) (fun y hv e τ hne hq=>?_)
   ·exact ZK (ZA @Ue.eq_1 @ce.eq_1)
   ·subst hv;simp only[] at h;simp only[ZC,ce,KP];cases h;exact ZL g @nD.eq_1
   ·subst hv;simp only[] at h;obtain⟨rfl,t⟩:=hq;cases h;exact t⟩
instance(d:List az)(k:Int)(g:Int):CW (MA d k g) (fun(r:Int×Bool)=>Ok A1 222 [.lst .o 2 (d.map (aB .o)),.i k,.i g] (.tup [.i r.1,.b r.2])):=⟨fun r h=>by
 refine aL br m222 rfl ?_;unfold MA at h;simp only[ZC,A222,io,aY];obtain⟨p,q,h⟩:=ah h;refine ZF trivial ?_;refine ZUG trivial (CW.w _ q) ?_;obtain⟨t,u,h⟩:=ah h;try refine ZF trivial ?_
 refine aD (sh:=(fun v=>⟨[(0,.lst .o 2 (d.map (aB .o))),(2,.i g),(8,.i p.1),(23,.b v)],[]⟩)) (s:=t) ?_ ?_
 ·replace h:=u;obtain⟨a,h⟩|⟨a,h⟩:=aw h
  ·cases h;exact ZL a trivial
  ·obtain⟨x,w,h⟩:=ah h;refine ZF a ?_;refine ZSG a (CW.w _ w) ?_;cases h;exact ZL a trivial
 ·simp only[ZC,RP];obtain⟨c,h⟩|⟨c,h⟩:=aw h
  ·cases h;exact ZL c @io.eq_1
  ·obtain⟨y,l,h⟩:=ah h;obtain⟨z,m,h⟩:=ah h;obtain⟨j,h⟩|⟨j,h⟩:=aw h
   ·cases h;exact ZL (ZA c (ZA (bc l) (ZA (ba m) j))) @io.eq_1
   ·cases h;exact ZL (ZA c (ZA (bc l) (ZA (ba m) j))) @io.eq_1⟩
def SD(c:ae)(d:List az)(a:aM)(b:List ai×Bool)(v:Int×List aq):St:=⟨[(1,.lst .o 2 (d.map (aB .o))),(3,.pt 3 0 0),(5,.pt 5 0 0),(10,.sl 10 0 v.2.length),(37,.sl 8 0 b.1.length),(38,.i (b.1.length:Int)),(39,.i v.1)],[(3,.var (au .o c)),(5,.var (aQ .o a)),(8,.arr 2 (b.1.map (ax .u))),(10,.arr 3 (v.2.map (ay .m)))]⟩
def Ea(v:List aq):St:=⟨[(10,.sl 10 0 v.length)],[(10,.arr 3 (v.map (ay .m)))]⟩
instance(c:ae)(d:List az)(g:aM)(j:List ai×Bool):CL (FM c d g j) rh [1,3,5,10,37,38,39] [3,5,8,10] (SD c d g j) (qX 0 [10] [10] (Ea)):=⟨fun a o h=>by
 have e:=ZA @SD.eq_1 @Ea.eq_1;unfold FM at h;simp only[ZC,SD,rh];obtain⟨k,h⟩|⟨k,h⟩:=aw h
 ·obtain⟨i1,x,h⟩:=ah h;obtain⟨s,y,h⟩:=ah h;obtain⟨j1,z,h⟩:=ah h;have f:=ZA k (ZA (ba x) y);refine ZF f ?_;refine ZSG f (CW.w _ z) ?_;obtain⟨a1,b1,h⟩:=ah h;refine ZF f ?_;refine ZUG f (CW.w _ b1) ?_;obtain⟨l,h⟩|⟨l,h⟩:=aw h
  ·obtain⟨p,b,h⟩:=bf h;have c1:Row.arr 3 [(.agg [.i s.N,.lst .m 1 (s.F.map AV.i),.i a1.1]:AV)]=Row.arr 3 (p.map (ay .m)):=by rw[<-b];rfl
   have t:p.length=1:=by rw[<-b];rfl
   obtain⟨k1,d1,h⟩:=ah h;have u:=ba d1;obtain⟨v,q,h⟩:=bf h;have g1:a.2.map (ay .m)++p.map (ay .m)=v.map (ay .m):=by rw[<-q,A4]
   have w:a.2.length+1=v.length:=by simp[<-b,<-q]<;>omega
   rw[w] at u;cases h;exact ZL (ZA f (ZA l (ZA c1 (ZA t (ZA u (ZA g1 w)))))) (ZA e (ZA b.symm (ZA q.symm t)))
  ·cases h;exact ZL (ZA f l) e
 ·cases h;exact ZL k e⟩
instance(c:ae)(g:List az)(a:aM):CW (GS c g a) (fun(r:Bool×List aq)=>OkM A1 186 [(au .o c),.lst .o 2 (g.map (aB .o)),(aQ .o a)] [] (.tup [.sl 6 0 r.2.length,.b r.1]) ([(6,.arr 3 (r.2.map (ay .m)))])):=⟨fun r h=>by
 refine aZ (lr:=[6]) br ace rfl rfl ?_;unfold GS at h;simp only[ZC,Ru,io];obtain⟨t,w,h⟩:=ah h;try refine ZF trivial ?_
 refine aD (sh:=(fun v=>⟨[(1,.lst .o 2 (g.map (aB .o))),(3,.pt 3 0 0),(5,.pt 5 0 0),(24,.b v)],[(3,.var (au .o c)),(5,.var (aQ .o a))]⟩)) (s:=t) ?_ ?_
 ·replace h:=w;obtain⟨i1,x,h⟩:=ah h;refine ZF trivial ?_;refine ZSG trivial (CW.w _ x) ?_;obtain⟨l,h⟩|⟨l,h⟩:=aw h
  ·cases h;exact ZL l trivial
  ·obtain⟨j,k,h⟩:=bf h;have y:Row.arr 4 [(.agg [.i ((a).N),.i ((a).L),.i ((a).F),.i ((a).W)]:AV)]=Row.arr 4 (j.map (aQ .u)):=by rw[<-k];rfl
   have q:j.length=1:=by rw[<-k];rfl
   have a1:sub (j.map (aQ .u)) 0 1=j.map (aQ .u):=nC _ (by simp[<-k]);obtain⟨j1,b1,h⟩:=ah h;have f:=ZA l (ZA y (ZA q a1));refine ZF f ?_;refine ZSG f (CW.w _ b1) ?_;cases h;exact ZL f (ZA k.symm q)
 ·simp only[ZC,yh];obtain⟨d,h⟩|⟨d,h⟩:=aw h
  ·cases h;exact ZL d @io.eq_1
  ·obtain⟨c1,d1,h⟩:=ah h;refine ZF d ?_;refine ZUG d (CW.w _ d1) ?_;obtain⟨p,h⟩|⟨p,h⟩:=aw h
   ·cases h;exact ZL (ZA d p) @io.eq_1
   ·obtain⟨k1,g1,h⟩:=ah h;have f:=ZA d p;try refine ZF f ?_
    refine aD (bb (aJ CL.w g1 ?_)) ?_
    ·exact ZK (ZA @SD.eq_1 @Ea.eq_1)
    ·simp only[ZC,Ea,Ab];cases h;exact ZL f @io.eq_1⟩
instance(a:aq):CW (M_h a) (fun(r:Int)=>Ok A1 187 [(ay .o a)] (.i r)):=⟨fun r h=>by
 refine aL br m187 rfl ?_;unfold M_h at h;simp only[ZC,A187,bL,aY];cases h;exact ZL trivial @bL.eq_1⟩
instance(a:aq)(b:aq):CW (xU a b) (fun(r:Int)=>Ok A1 238 [(ay .o a),(ay .o b)] (.i r)):=⟨fun r h=>by
 refine aL br m238 rfl ?_;unfold xU at h;simp only[ZC,A238,aO,aY];obtain⟨j,c,h⟩:=ah h;refine ZF trivial ?_;refine ZSG trivial (CW.w _ c) ?_;obtain⟨k,d,h⟩:=ah h;refine ZF trivial ?_;refine ZSG trivial (CW.w _ d) ?_;obtain⟨l,g,h⟩:=ah h;refine ZF trivial ?_;refine ZSG trivial (CW.w _ g) ?_;cases h;exact ZL trivial @aO.eq_1⟩
def S_s(a:Nat)(b:Nat)(c:Int)(d:Int)(g:Int×List aq)(v:Int×List aq):St:=⟨[(0,.sl 1000000000 a b),(1,.i c),(2,.i d),(3,.fn 238 []),(8,.i g.1),(9,.i v.1)],[(1000000000,.arr 3 (v.2.map (ay .m)))]⟩
def TV(a:Nat)(b:Nat)(c:Int)(d:Int)(g:Int×List aq)(v:List aq):St:=⟨[(0,.sl 1000000000 a b),(1,.i c),(2,.i d),(3,.fn 238 []),(8,.i g.1)],[(1000000000,.arr 3 (v.map (ay .m)))]⟩
def w_s(a:Nat)(d:Nat)(g:Int)(j:Int)(k:Int×List aq)(c:Int×List aq)(o:(Int×List aq)⊕(List aq))(h:M_s a d g c=some o):AWP (OkS A1) se (qL [0,1,2,3,8,9] [1000000000] (S_s a d g j k) (qX 2 [0,1,2,3,8] [1000000000] (TV a d g j k)) o) (S_s a d g j k c):=by
 have e:=ZA @S_s.eq_1 @TV.eq_1;unfold M_s at h;simp only[ZC,S_s,se];obtain⟨y,z,h⟩:=ah h;try refine ZF trivial ?_
 refine aD (sh:=(fun v=>⟨[(0,.sl 1000000000 a d),(1,.i g),(2,.i j),(3,.fn 238 []),(8,.i k.1),(9,.i c.1),(34,.b v)],[(1000000000,.arr 3 (c.2.map (ay .m)))]⟩)) (s:=y) ?_ ?_
 ·replace h:=z;obtain⟨l,h⟩|⟨l,h⟩:=aw h
  ·obtain⟨t1,a1,h⟩:=ah h;obtain⟨u1,b1,h⟩:=ah h;obtain⟨v1,c1,h⟩:=ah h;obtain⟨w1,d1,h⟩:=ah h;obtain⟨y1,g1,h⟩:=ah h;have f:=ZA l (ZA (ba a1) (ZA b1 (ZA (ba c1) d1)));refine ZF f ?_;refine ZSG f (CW.w _ g1) ?_;cases h;exact ZL f trivial
  ·cases h;exact ZL l trivial
 ·simp only[ZC,yo];obtain⟨p,h⟩|⟨p,h⟩:=aw h
  ·obtain⟨z1,i1,h⟩:=ah h;obtain⟨q,j1,h⟩:=ah h;obtain⟨a2,k1,h⟩:=ah h;obtain⟨t,l1,h⟩:=ah h;obtain⟨u,w,h⟩:=bf h;have m1:(c.2.map (ay .m)).set (a+(B4 c.1)) (.agg [.i q.F.N,.lst .m 1 (q.F.F.map AV.i),.i q.N])=u.map (ay .m):=by rw[<-w,C0];rfl
   obtain⟨b2,p1,h⟩:=ah h;obtain⟨q1,x,h⟩:=bf h;have s1:(u.map (ay .m)).set (a+(B4 (IntKind.wrap .i64 (c.1-1)))) (.agg [.i t.F.N,.lst .m 1 (t.F.F.map AV.i),.i t.N])=q1.map (ay .m):=by rw[<-x,C0];rfl
   cases h;exact ZL (ZA p (ZA (ba i1) (ZA j1 (ZA (ba k1) (ZA l1 (ZA m1 (ZA p1 s1))))))) (ZA e (ZA w.symm x.symm))
  ·cases h;exact ZL p e
def S_b(a:Nat)(b:Nat)(c:Int)(d:Int)(v:Int×List aq):St:=⟨[(0,.sl 1000000000 a b),(1,.i c),(2,.i d),(3,.fn 238 []),(8,.i v.1)],[(1000000000,.arr 3 (v.2.map (ay .m)))]⟩
def je(v:List aq):St:=⟨[],[(1000000000,.arr 3 (v.map (ay .m)))]⟩
instance(a:Nat)(b:Nat)(c:Int)(d:Int):CL (M_b a b c d) sg [0,1,2,3,8] [1000000000] (S_b a b c d) (qX 0 [] [1000000000] (je)):=⟨fun g o h=>by
 have e:=ZA @S_b.eq_1 @je.eq_1;unfold M_b at h;simp only[ZC,S_b,sg];obtain⟨j,h⟩|⟨j,h⟩:=aw h
 ·obtain⟨p,q,h⟩:=ah h;try refine ZF j ?_
  refine aD (sh:=(fun v=>⟨[(0,.sl 1000000000 a b),(1,.i c),(2,.i d),(3,.fn 238 []),(8,.i g.1)],[(1000000000,.arr 3 (v.map (ay .m)))]⟩)) (s:=p) ?_ ?_
  ·replace h:=q;obtain⟨t,k,h⟩:=ah h;try refine ZF j ?_
   first|refine dz (bb (aJ (w_s a b c d g) k ?_)) (fun τ l=>?_)|refine eC (aJ (w_s a b c d g) k ?_) (fun τ l=>?_)
   ·exact ZK (ZA @S_s.eq_1 @TV.eq_1)
   ·cases h;try refine ZF trivial ?_
    refine⟨rfl,Shp.sub l (by decide) (by decide) ?_⟩;exact ZK @TV.eq_1
  ·simp only[ZC,yS];cases h;exact ZL j e
 ·cases h;exact ZL j e⟩
instance(a:Nat)(b:Nat)(c:Int)(d:Int)(g:List aq):CW (GM a b c d g) (fun(r:List aq)=>OkM A1 272 [.sl 1000000000 a b,.i c,.i d,.fn 238 []] [(1000000000,.arr 3 (g.map (ay .m)))] (.tup []) ([(1000000000,.arr 3 (r.map (ay .m)))])):=⟨fun r h=>by
 refine aZ (lr:=[1000000000]) br YZ rfl rfl ?_;unfold GM at h;simp only[ZC,LB,bP];obtain⟨l,j,h⟩:=ah h;try refine ZF trivial ?_
 first|refine dz (bb (aJ CL.w j ?_)) (fun τ k=>?_)|refine eC (aJ CL.w j ?_) (fun τ k=>?_)
 ·exact ZK (ZA @S_b.eq_1 @je.eq_1)
 ·cases h;refine gW k (by decide) ?_ rfl;exact ZK (ZA @bP.eq_1 @je.eq_1)⟩
def UB(a:Nat)(b:Nat)(c:Int)(d:Int)(g:Int)(v:Int×List aq):St:=⟨[(0,.sl 1000000000 a b),(1,.i c),(2,.i d),(3,.i g),(10,.i v.1)],[(1000000000,.arr 3 (v.2.map (ay .m)))]⟩
instance(a:Nat)(g:Nat)(c:Int)(d:Int)(j:Int):CL (zO a g c d j) sO [0,1,2,3,10] [1000000000] (UB a g c d j) (qX 0 [] [1000000000] (je)):=⟨fun b o h=>by
 have e:=ZA @UB.eq_1 @je.eq_1;unfold zO at h;simp only[ZC,UB,sO];obtain⟨k,h⟩|⟨k,h⟩:=aw h
 ·obtain⟨c1,u,h⟩:=ah h;obtain⟨l,v,h⟩:=ah h;obtain⟨d1,w,h⟩:=ah h;obtain⟨p,x,h⟩:=ah h;obtain⟨q,s,h⟩:=bf h;have y:(b.2.map (ay .m)).set (a+(B4 (IntKind.wrap .i64 (c+b.1)))) (.agg [.i l.F.N,.lst .m 1 (l.F.F.map AV.i),.i l.N])=q.map (ay .m):=by rw[<-s,C0];rfl
  obtain⟨g1,z,h⟩:=ah h;obtain⟨a1,t,h⟩:=bf h;have b1:(q.map (ay .m)).set (a+(B4 (IntKind.wrap .i64 (d+b.1)))) (.agg [.i p.F.N,.lst .m 1 (p.F.F.map AV.i),.i p.N])=a1.map (ay .m):=by rw[<-t,C0];rfl
  cases h;exact ZL (ZA k (ZA (ba u) (ZA v (ZA (ba w) (ZA x (ZA y (ZA z b1))))))) (ZA e (ZA s.symm t.symm))
 ·cases h;exact ZL k e⟩
instance(a:Nat)(b:Nat)(c:Int)(d:Int)(g:Int)(j:List aq):CW (BQ a b c d g j) (fun(r:List aq)=>OkM A1 287 [.sl 1000000000 a b,.i c,.i d,.i g,.fn 238 []] [(1000000000,.arr 3 (j.map (ay .m)))] (.tup []) ([(1000000000,.arr 3 (r.map (ay .m)))])):=⟨fun r h=>by
 refine aZ (lr:=[1000000000]) br aag rfl rfl ?_;unfold BQ at h;simp only[ZC,PV,bP];obtain⟨p,k,h⟩:=ah h;try refine ZF trivial ?_
 first|refine dz (bb (aJ CL.w k ?_)) (fun τ l=>?_)|refine eC (aJ CL.w k ?_) (fun τ l=>?_)
 ·exact ZK (ZA @UB.eq_1 @je.eq_1)
 ·cases h;refine gW l (by decide) ?_ rfl;exact ZK (ZA @bP.eq_1 @je.eq_1)⟩
def SF(a:Nat)(b:Nat)(c:Int)(v:Int×Int×List aq):St:=⟨[(0,.sl 1000000000 a b),(2,.i c),(4,.fn 238 []),(10,.i v.1),(11,.i v.2.1)],[(1000000000,.arr 3 (v.2.2.map (ay .m)))]⟩
def DM(a:Nat)(b:Nat)(c:Int)(v:Int×List aq):St:=⟨[(0,.sl 1000000000 a b),(2,.i c),(4,.fn 238 []),(10,.i v.1)],[(1000000000,.arr 3 (v.2.map (ay .m)))]⟩
instance(a:Nat)(b:Nat)(c:Int):CL (Lj a b c) rB [0,2,4,10,11] [1000000000] (SF a b c) (qX 0 [0,2,4,10] [1000000000] (DM a b c)):=⟨fun i o h=>by
 have e:=ZA @SF.eq_1 @DM.eq_1;unfold Lj at h;simp only[ZC,SF,rB];obtain⟨d,h⟩|⟨d,h⟩:=aw h
 ·obtain⟨g,h⟩|⟨g,h⟩:=aw h
  ·obtain⟨l,j,h⟩:=ah h;have f:=ZA d g;refine ZF f ?_;refine ZWG f (CW.w _ j) [1000000000] [] ?_;cases h;exact ZL f e
  ·obtain⟨m,k,h⟩:=ah h;have f:=ZA d g;refine ZF f ?_;refine ZWG f (CW.w _ k) [1000000000] [] ?_;cases h;exact ZL f e
 ·cases h;exact ZL d e⟩
instance(a:Nat)(b:Nat)(d:Int)(c:Int)(g:Int)(j:List aq):CW (Bb a b d c g j) (fun(r:List aq)=>OkM A1 277 [.sl 1000000000 a b,.i d,.i c,.i g,.fn 238 []] [(1000000000,.arr 3 (j.map (ay .m)))] (.tup []) ([(1000000000,.arr 3 (r.map (ay .m)))])):=⟨fun r h=>by
 refine aZ (lr:=[1000000000]) br adk rfl rfl ?_;unfold Bb at h;simp only[ZC,Np,bP];obtain⟨p,k,h⟩:=ah h;try refine ZF trivial ?_
 refine aD (bb (aJ CL.w k ?_)) ?_
 ·exact ZK (ZA @SF.eq_1 @DM.eq_1)
 ·simp only[ZC,DM,yI];obtain⟨q,l,h⟩:=ah h;refine ZF trivial ?_;refine ZWG trivial (CW.w _ l) [1000000000] [] ?_;cases h;exact ZL trivial @bP.eq_1⟩
def S_t(a:Nat)(b:Nat)(c:Int)(d:List aq)(v:Int×Int):St:=⟨[(0,.sl 1000000000 a b),(1,.i c),(4,.fn 238 []),(10,.i v.1),(11,.i v.2)],[(1000000000,.arr 3 (d.map (ay .m)))]⟩
def UX(a:Nat)(b:Nat)(c:Int)(d:List aq)(v:Int):St:=⟨[(0,.sl 1000000000 a b),(1,.i c),(10,.i v)],[(1000000000,.arr 3 (d.map (ay .m)))]⟩
def w_t(a:Nat)(b:Nat)(c:Int)(g:Int)(j:Int)(d:List aq)(q:Nat->Nat->Int->Int->Int->List aq->Option (List aq))(x:∀(a:Nat)(b:Nat)(c:Int)(g:Int)(j:Int)(d:List aq){r:List aq},q a b c g j d=some r->OkM A1 273 [.sl 1000000000 a b,.i c,.i g,.i j,.fn 238 []] [(1000000000,.arr 3 (d.map (ay .m)))] (.tup []) ([(1000000000,.arr 3 (r.map (ay .m)))]))(p:Int×Int)(o:(Int×Int)⊕Int)(h:M_t a b c d p=some o):AWP (OkS A1) rO (qL [0,1,4,10,11] [1000000000] (S_t a b c d) (qX 0 [0,1,10] [1000000000] (UX a b c d)) o) (S_t a b c d p):=by
 have e:=ZA @S_t.eq_1 @UX.eq_1;unfold M_t at h;simp only[ZC,S_t,rO];obtain⟨k,h⟩|⟨k,h⟩:=aw h
 ·obtain⟨y,s,h⟩:=ah h;obtain⟨z,t,h⟩:=ah h;obtain⟨a1,u,h⟩:=ah h;obtain⟨b1,v,h⟩:=ah h;obtain⟨c1,w,h⟩:=ah h;have f:=ZA k (ZA (ba s) (ZA t (ZA (ba u) v)));refine ZF f ?_;refine ZSG f (CW.w _ w) ?_;obtain⟨l,h⟩|⟨l,h⟩:=aw h
  ·cases h;exact ZL (ZA f l) e
  ·cases h;exact ZL (ZA f l) e
 ·cases h;exact ZL k e
def Qy(a:Nat)(b:Nat)(c:Int)(v:Int×List aq):St:=⟨[(0,.sl 1000000000 a b),(10,.i c),(13,.i v.1)],[(1000000000,.arr 3 (v.2.map (ay .m)))]⟩
def w_bs(a:Nat)(b:Nat)(d:Int)(g:Int)(j:Int)(k:List aq)(w:Nat->Nat->Int->Int->Int->List aq->Option (List aq))(l:Int)(i1:∀(a:Nat)(b:Nat)(d:Int)(g:Int)(j:Int)(k:List aq){r:List aq},w a b d g j k=some r->OkM A1 273 [.sl 1000000000 a b,.i d,.i g,.i j,.fn 238 []] [(1000000000,.arr 3 (k.map (ay .m)))] (.tup []) ([(1000000000,.arr 3 (r.map (ay .m)))]))(c:Int×List aq)(o:(Int×List aq)⊕(List aq))(h:IV a b l c=some o):AWP (OkS A1) rV (qL [0,10,13] [1000000000] (Qy a b l) (qX 2 [] [1000000000] (je)) o) (Qy a b l c):=by
 have e:=ZA @Qy.eq_1 @je.eq_1;unfold IV at h;simp only[ZC,Qy,rV];obtain⟨p,h⟩|⟨p,h⟩:=aw h
 ·obtain⟨j1,x,h⟩:=ah h;obtain⟨q,y,h⟩:=ah h;obtain⟨k1,z,h⟩:=ah h;obtain⟨s,a1,h⟩:=ah h;obtain⟨t,u,h⟩:=bf h;have b1:(c.2.map (ay .m)).set (a+(B4 c.1)) (.agg [.i q.F.N,.lst .m 1 (q.F.F.map AV.i),.i q.N])=t.map (ay .m):=by rw[<-u,C0];rfl
  obtain⟨l1,c1,h⟩:=ah h;obtain⟨d1,v,h⟩:=bf h;have g1:(t.map (ay .m)).set (a+(B4 (IntKind.wrap .i64 (c.1+1)))) (.agg [.i s.F.N,.lst .m 1 (s.F.F.map AV.i),.i s.N])=d1.map (ay .m):=by rw[<-v,C0];rfl
  cases h;exact ZL (ZA p (ZA (ba x) (ZA y (ZA (ba z) (ZA a1 (ZA b1 (ZA c1 g1))))))) (ZA e (ZA u.symm v.symm))
 ·cases h;exact ZL p e
def S_u(a:Nat)(b:Nat)(c:Int)(d:List aq)(v:Int×Int):St:=⟨[(0,.sl 1000000000 a b),(2,.i c),(4,.fn 238 []),(14,.i v.1),(15,.i v.2)],[(1000000000,.arr 3 (d.map (ay .m)))]⟩
def UI(a:Nat)(b:Nat)(c:Int)(d:List aq)(v:Int):St:=⟨[(0,.sl 1000000000 a b),(2,.i c),(14,.i v)],[(1000000000,.arr 3 (d.map (ay .m)))]⟩
def w_u(a:Nat)(b:Nat)(g:Int)(c:Int)(j:Int)(d:List aq)(q:Nat->Nat->Int->Int->Int->List aq->Option (List aq))(x:∀(a:Nat)(b:Nat)(g:Int)(c:Int)(j:Int)(d:List aq){r:List aq},q a b g c j d=some r->OkM A1 273 [.sl 1000000000 a b,.i g,.i c,.i j,.fn 238 []] [(1000000000,.arr 3 (d.map (ay .m)))] (.tup []) ([(1000000000,.arr 3 (r.map (ay .m)))]))(p:Int×Int)(o:(Int×Int)⊕Int)(h:M_u a b c d p=some o):AWP (OkS A1) rl (qL [0,2,4,14,15] [1000000000] (S_u a b c d) (qX 4 [0,2,14] [1000000000] (UI a b c d)) o) (S_u a b c d p):=by
 have e:=ZA @S_u.eq_1 @UI.eq_1;unfold M_u at h;simp only[ZC,S_u,rl];obtain⟨k,h⟩|⟨k,h⟩:=aw h
 ·obtain⟨y,s,h⟩:=ah h;obtain⟨z,t,h⟩:=ah h;obtain⟨a1,u,h⟩:=ah h;obtain⟨b1,v,h⟩:=ah h;obtain⟨c1,w,h⟩:=ah h;have f:=ZA k (ZA (ba s) (ZA t (ZA (ba u) v)));refine ZF f ?_;refine ZSG f (CW.w _ w) ?_;obtain⟨l,h⟩|⟨l,h⟩:=aw h
  ·cases h;exact ZL (ZA f l) e
  ·cases h;exact ZL (ZA f l) e
 ·cases h;exact ZL k e
def JX(a:Nat)(b:Nat)(c:Int)(v:Int×List aq):St:=⟨[(0,.sl 1000000000 a b),(14,.i c),(17,.i v.1)],[(1000000000,.arr 3 (v.2.map (ay .m)))]⟩
def w_bt(a:Nat)(b:Nat)(d:Int)(g:Int)(j:Int)(k:List aq)(w:Nat->Nat->Int->Int->Int->List aq->Option (List aq))(l:Int)(i1:∀(a:Nat)(b:Nat)(d:Int)(g:Int)(j:Int)(k:List aq){r:List aq},w a b d g j k=some r->OkM A1 273 [.sl 1000000000 a b,.i d,.i g,.i j,.fn 238 []] [(1000000000,.arr 3 (k.map (ay .m)))] (.tup []) ([(1000000000,.arr 3 (r.map (ay .m)))]))(c:Int×List aq)(o:(Int×List aq)⊕(List aq))(h:FL a b l c=some o):AWP (OkS A1) pW (qL [0,14,17] [1000000000] (JX a b l) (qX 6 [] [1000000000] (je)) o) (JX a b l c):=by
 have e:=ZA @JX.eq_1 @je.eq_1;unfold FL at h;simp only[ZC,JX,pW];obtain⟨p,h⟩|⟨p,h⟩:=aw h
 ·obtain⟨j1,x,h⟩:=ah h;obtain⟨q,y,h⟩:=ah h;obtain⟨k1,z,h⟩:=ah h;obtain⟨s,a1,h⟩:=ah h;obtain⟨t,u,h⟩:=bf h;have b1:(c.2.map (ay .m)).set (a+(B4 c.1)) (.agg [.i q.F.N,.lst .m 1 (q.F.F.map AV.i),.i q.N])=t.map (ay .m):=by rw[<-u,C0];rfl
  obtain⟨l1,c1,h⟩:=ah h;obtain⟨d1,v,h⟩:=bf h;have g1:(t.map (ay .m)).set (a+(B4 (IntKind.wrap .i64 (c.1-1)))) (.agg [.i s.F.N,.lst .m 1 (s.F.F.map AV.i),.i s.N])=d1.map (ay .m):=by rw[<-v,C0];rfl
  cases h;exact ZL (ZA p (ZA (ba x) (ZA y (ZA (ba z) (ZA a1 (ZA b1 (ZA c1 g1))))))) (ZA e (ZA u.symm v.symm))
 ·cases h;exact ZL p e
def S_v(d:Nat)(g:Nat)(a:Int)(c:Int)(b:Int)(j:List aq)(v:Int×Int):St:=⟨[(0,.sl 1000000000 d g),(1,.i a),(2,.i c),(3,.i b),(4,.fn 238 []),(18,.i (IntKind.wrap .i64 (Int.fdiv (IntKind.wrap .u64 (IntKind.wrap .i64 (a+b))) (2^(min (B4 1) (IntKind.bits .u64)))))),(19,.i (IntKind.wrap .i64 ((IntKind.wrap .i64 (Int.fdiv (IntKind.wrap .u64 (IntKind.wrap .i64 (a+b))) (2^(min (B4 1) (IntKind.bits .u64)))))+c))),(20,.i v.1),(21,.i v.2),(22,.i (IntKind.wrap .i64 ((IntKind.wrap .i64 ((IntKind.wrap .i64 (Int.fdiv (IntKind.wrap .u64 (IntKind.wrap .i64 (a+b))) (2^(min (B4 1) (IntKind.bits .u64)))))+c))-1)))],[(1000000000,.arr 3 (j.map (ay .m)))]⟩
def VF(d:Nat)(g:Nat)(a:Int)(c:Int)(b:Int)(j:List aq)(v:Int):St:=⟨[(0,.sl 1000000000 d g),(1,.i a),(2,.i c),(3,.i b),(4,.fn 238 []),(18,.i (IntKind.wrap .i64 (Int.fdiv (IntKind.wrap .u64 (IntKind.wrap .i64 (a+b))) (2^(min (B4 1) (IntKind.bits .u64)))))),(19,.i (IntKind.wrap .i64 ((IntKind.wrap .i64 (Int.fdiv (IntKind.wrap .u64 (IntKind.wrap .i64 (a+b))) (2^(min (B4 1) (IntKind.bits .u64)))))+c))),(20,.i v)],[(1000000000,.arr 3 (j.map (ay .m)))]⟩
def w_v(a:Nat)(b:Nat)(c:Int)(d:Int)(g:Int)(j:List aq)(q:Nat->Nat->Int->Int->Int->List aq->Option (List aq))(x:∀(a:Nat)(b:Nat)(c:Int)(d:Int)(g:Int)(j:List aq){r:List aq},q a b c d g j=some r->OkM A1 273 [.sl 1000000000 a b,.i c,.i d,.i g,.fn 238 []] [(1000000000,.arr 3 (j.map (ay .m)))] (.tup []) ([(1000000000,.arr 3 (r.map (ay .m)))]))(p:Int×Int)(o:(Int×Int)⊕Int)(h:M_v a b c d g j p=some o):AWP (OkS A1) nX (qL [0,1,2,3,4,18,19,20,21,22] [1000000000] (S_v a b c d g j) (qX 8 [0,1,2,3,4,18,19,20] [1000000000] (VF a b c d g j)) o) (S_v a b c d g j p):=by
 have e:=ZA @S_v.eq_1 @VF.eq_1;unfold M_v at h;simp only[ZC,S_v,nX];obtain⟨k,h⟩|⟨k,h⟩:=aw h
 ·obtain⟨y,s,h⟩:=ah h;obtain⟨z,t,h⟩:=ah h;obtain⟨a1,u,h⟩:=ah h;obtain⟨b1,v,h⟩:=ah h;obtain⟨c1,w,h⟩:=ah h;have f:=ZA k (ZA (ba s) (ZA t (ZA (ba u) v)));refine ZF f ?_;refine ZSG f (CW.w _ w) ?_;obtain⟨l,h⟩|⟨l,h⟩:=aw h
  ·cases h;exact ZL (ZA f l) e
  ·cases h;exact ZL (ZA f l) e
 ·cases h;exact ZL k e
def wB_k(p:Nat->Nat->Int->Int->Int->List aq->Option (List aq))(q:∀(g:Nat)(j:Nat)(c:Int)(d:Int)(a:Int)(k:List aq){r:List aq},p g j c d a k=some r->OkM A1 273 [.sl 1000000000 g j,.i c,.i d,.i a,.fn 238 []] [(1000000000,.arr 3 (k.map (ay .m)))] (.tup []) ([(1000000000,.arr 3 (r.map (ay .m)))]))(g:Nat)(j:Nat)(c:Int)(d:Int)(a:Int)(k:List aq){r:List aq}(h:VQ p g j c d a k=some r):OkM A1 273 [.sl 1000000000 g j,.i c,.i d,.i a,.fn 238 []] [(1000000000,.arr 3 (k.map (ay .m)))] (.tup []) ([(1000000000,.arr 3 (r.map (ay .m)))]):=by
 have e:=@bP.eq_1;refine aZ (lr:=[1000000000]) br acr rfl rfl ?_;unfold VQ at h;simp only[ZC,KG,bP];obtain⟨t,h⟩|⟨t,h⟩:=aw h
 ·obtain⟨i1,j1,h⟩:=ah h;try refine ZF t ?_
  refine aD (bb (aJ (w_t g j c d a k p q) j1 ?_)) ?_
  ·exact ZK (ZA @S_t.eq_1 @UX.eq_1)
  ·simp only[ZC,UX,Ax];obtain⟨j2,k1,h⟩:=ah h;try refine ZF t ?_
   refine aD (bb (aJ (w_bs g j c d a k p i1 q) k1 ?_)) ?_
   ·exact ZK (ZA @Qy.eq_1 @je.eq_1)
   ·simp only[ZC,je,zZ];cases h;exact ZL t e
 ·obtain⟨u,h⟩|⟨u,h⟩:=aw h
  ·obtain⟨l1,m1,h⟩:=ah h;have f:=ZA t u;try refine ZF f ?_
   refine aD (bb (aJ (w_u g j c d a k p q) m1 ?_)) ?_
   ·exact ZK (ZA @S_u.eq_1 @UI.eq_1)
   ·simp only[ZC,UI,yc];obtain⟨k2,p1,h⟩:=ah h;try refine ZF f ?_
    refine aD (bb (aJ (w_bt g j c d a k p l1 q) p1 ?_)) ?_
    ·exact ZK (ZA @JX.eq_1 @je.eq_1)
    ·simp only[ZC,je,zW];cases h;exact ZL f e
  ·obtain⟨q1,s1,h⟩:=ah h;have f:=ZA t u;try refine ZF f ?_
   refine aD (sh:=(fun v=>⟨[(0,.sl 1000000000 g j),(1,.i c),(2,.i d),(3,.i a),(4,.fn 238 []),(18,.i (IntKind.wrap .i64 (Int.fdiv (IntKind.wrap .u64 (IntKind.wrap .i64 (c+a))) (2^(min (B4 1) (IntKind.bits .u64)))))),(19,.i (IntKind.wrap .i64 ((IntKind.wrap .i64 (Int.fdiv (IntKind.wrap .u64 (IntKind.wrap .i64 (c+a))) (2^(min (B4 1) (IntKind.bits .u64)))))+d))),(20,.i v.1),(21,.i v.2)],[(1000000000,.arr 3 (k.map (ay .m)))]⟩)) (s:=q1) ?_ ?_
   ·replace h:=s1;obtain⟨w,h⟩|⟨w,h⟩:=aw h
    ·cases h;exact ZL (ZA f w) trivial
    ·cases h;exact ZL (ZA f w) trivial
   ·simp only[ZC,Aa];obtain⟨l,t1,h⟩:=ah h;try refine ZF f ?_
    refine aD (bb (aJ (w_v g j c d a k p q) t1 ?_)) ?_
    ·exact ZK (ZA @S_v.eq_1 @VF.eq_1)
    ·simp only[ZC,VF,uK];obtain⟨d1,u1,h⟩:=ah h;try refine ZF f ?_
     refine aD (sh:=(fun v=>⟨[(0,.sl 1000000000 g j),(1,.i c),(3,.i a),(4,.fn 238 []),(18,.i (IntKind.wrap .i64 (Int.fdiv (IntKind.wrap .u64 (IntKind.wrap .i64 (c+a))) (2^(min (B4 1) (IntKind.bits .u64)))))),(20,.i l),(24,.i (IntKind.wrap .i64 ((IntKind.wrap .i64 ((IntKind.wrap .i64 (Int.fdiv (IntKind.wrap .u64 (IntKind.wrap .i64 (c+a))) (2^(min (B4 1) (IntKind.bits .u64)))))+d))-l)))],[(1000000000,.arr 3 (v.map (ay .m)))]⟩)) (s:=d1) ?_ ?_
     ·replace h:=u1;obtain⟨v1,w1,h⟩:=ah h;try refine ZF f ?_
      refine aD (sh:=(fun v=>⟨[(0,.sl 1000000000 g j),(1,.i c),(2,.i d),(3,.i a),(4,.fn 238 []),(18,.i (IntKind.wrap .i64 (Int.fdiv (IntKind.wrap .u64 (IntKind.wrap .i64 (c+a))) (2^(min (B4 1) (IntKind.bits .u64)))))),(20,.i l),(24,.i (IntKind.wrap .i64 ((IntKind.wrap .i64 ((IntKind.wrap .i64 (Int.fdiv (IntKind.wrap .u64 (IntKind.wrap .i64 (c+a))) (2^(min (B4 1) (IntKind.bits .u64)))))+d))-l))),(185,.b v)],[(1000000000,.arr 3 (k.map (ay .m)))]⟩)) (s:=v1) ?_ ?_
      ·replace h:=w1;obtain⟨x,h⟩|⟨x,h⟩:=aw h
       ·cases h;exact ZL (ZA f x) trivial
       ·cases h;exact ZL (ZA f x) trivial
      ·simp only[ZC,uD];obtain⟨y,h⟩|⟨y,h⟩:=aw h
       ·obtain⟨l2,y1,h⟩:=ah h;have f:=ZA f y;refine ZF f ?_;refine ZWG f (CW.w _ y1) [1000000000] [] ?_;cases h;exact ZL f trivial
       ·cases h;exact ZL (ZA f y) trivial
     ·simp only[ZC,uz];obtain⟨g1,z1,h⟩:=ah h;try refine ZF f ?_
      refine aD (sh:=(fun v=>⟨[(0,.sl 1000000000 g j),(3,.i a),(4,.fn 238 []),(18,.i (IntKind.wrap .i64 (Int.fdiv (IntKind.wrap .u64 (IntKind.wrap .i64 (c+a))) (2^(min (B4 1) (IntKind.bits .u64)))))),(24,.i (IntKind.wrap .i64 ((IntKind.wrap .i64 ((IntKind.wrap .i64 (Int.fdiv (IntKind.wrap .u64 (IntKind.wrap .i64 (c+a))) (2^(min (B4 1) (IntKind.bits .u64)))))+d))-l)))],[(1000000000,.arr 3 (v.map (ay .m)))]⟩)) (s:=g1) ?_ ?_
      ·replace h:=z1;obtain⟨a2,b2,h⟩:=ah h;try refine ZF f ?_
       refine aD (sh:=(fun v=>⟨[(0,.sl 1000000000 g j),(1,.i c),(3,.i a),(4,.fn 238 []),(18,.i (IntKind.wrap .i64 (Int.fdiv (IntKind.wrap .u64 (IntKind.wrap .i64 (c+a))) (2^(min (B4 1) (IntKind.bits .u64)))))),(20,.i l),(24,.i (IntKind.wrap .i64 ((IntKind.wrap .i64 ((IntKind.wrap .i64 (Int.fdiv (IntKind.wrap .u64 (IntKind.wrap .i64 (c+a))) (2^(min (B4 1) (IntKind.bits .u64)))))+d))-l))),(199,.b v)],[(1000000000,.arr 3 (d1.map (ay .m)))]⟩)) (s:=a2) ?_ ?_
       ·replace h:=b2;obtain⟨z,h⟩|⟨z,h⟩:=aw h
        ·cases h;exact ZL (ZA f z) trivial
        ·cases h;exact ZL (ZA f z) trivial
       ·simp only[ZC,ux];obtain⟨a1,h⟩|⟨a1,h⟩:=aw h
        ·obtain⟨m2,c2,h⟩:=ah h;have f:=ZA f a1;refine ZF f ?_;refine ZWG f (q _ _ _ _ _ _ c2) [1000000000] [] ?_;cases h;exact ZL f trivial
        ·cases h;exact ZL (ZA f a1) trivial
      ·simp only[ZC,uv];obtain⟨d2,g2,h⟩:=ah h;try refine ZF f ?_
       refine aD (sh:=(fun v=>⟨[(0,.sl 1000000000 g j),(3,.i a),(4,.fn 238 []),(18,.i (IntKind.wrap .i64 (Int.fdiv (IntKind.wrap .u64 (IntKind.wrap .i64 (c+a))) (2^(min (B4 1) (IntKind.bits .u64)))))),(24,.i (IntKind.wrap .i64 ((IntKind.wrap .i64 ((IntKind.wrap .i64 (Int.fdiv (IntKind.wrap .u64 (IntKind.wrap .i64 (c+a))) (2^(min (B4 1) (IntKind.bits .u64)))))+d))-l))),(213,.b v)],[(1000000000,.arr 3 (g1.map (ay .m)))]⟩)) (s:=d2) ?_ ?_
       ·replace h:=g2;obtain⟨b1,h⟩|⟨b1,h⟩:=aw h
        ·cases h;exact ZL (ZA f b1) trivial
        ·cases h;exact ZL (ZA f b1) trivial
       ·simp only[ZC,tQ];obtain⟨c1,h⟩|⟨c1,h⟩:=aw h
        ·obtain⟨p2,i2,h⟩:=ah h;have f:=ZA f c1;refine ZF f ?_;refine ZWG f (q _ _ _ _ _ _ i2) [1000000000] [] ?_;cases h;exact ZL f e
        ·cases h;exact ZL (ZA f c1) e
theorem w_k:∀(n:Nat)(a:Nat)(b:Nat)(c:Int)(d:Int)(g:Int)(j:List aq){r:List aq}(_:M_k n a b c d g j=some r),OkM A1 273 [.sl 1000000000 a b,.i c,.i d,.i g,.fn 238 []] [(1000000000,.arr 3 (j.map (ay .m)))] ((fun(r:List aq)=>.tup []) r) ((fun(r:List aq)=>[(1000000000,.arr 3 (r.map (ay .m)))]) r)
 |0,a,b,c,d,g,j,_,h=>by cases h
 |n+1,a,b,c,d,g,j,_,h=>wB_k (M_k n) (w_k n) a b c d g j h
def Sk(a:Int)(v:Nat×Int×Int×List aq):St:=⟨[(0,.sl 1000000000 0 v.1),(1,.i a),(2,.fn 238 []),(6,.i 20),(7,.i v.2.1),(8,.i v.2.2.1)],[(1000000000,.arr 3 (v.2.2.2.map (ay .m)))]⟩
def Fr(a:Int)(v:Nat×Int×List aq):St:=⟨[(0,.sl 1000000000 0 v.1),(1,.i a),(2,.fn 238 []),(6,.i 20),(7,.i v.2.1)],[(1000000000,.arr 3 (v.2.2.map (ay .m)))]⟩
instance(b:Int):CL (Im b) qv [0,1,2,6,7,8] [1000000000] (Sk b) (qX 0 [0,1,2,6,7] [1000000000] (Fr b)):=⟨fun c o h=>by
 have e:=ZA @Sk.eq_1 @Fr.eq_1;unfold Im at h;simp only[ZC,Sk,qv];obtain⟨a,h⟩|⟨a,h⟩:=aw h
 ·obtain⟨g,d,h⟩:=ah h;refine ZF a ?_;refine ZWG a (CW.w _ d) [1000000000] [] ?_;cases h;exact ZL a e
 ·cases h;exact ZL a e⟩
def Tk(a:Int)(b:Nat×Int×List aq)(c:Int×List aq)(v:Int×Int×List aq):St:=⟨[(0,.sl 1000000000 0 b.1),(1,.i a),(2,.fn 238 []),(6,.i c.1),(7,.i v.1),(8,.i v.2.1)],[(1000000000,.arr 3 (v.2.2.map (ay .m)))]⟩
def Fu(a:Int)(b:Nat×Int×List aq)(c:Int×List aq)(v:Int×List aq):St:=⟨[(0,.sl 1000000000 0 b.1),(1,.i a),(2,.fn 238 []),(6,.i c.1),(7,.i v.1)],[(1000000000,.arr 3 (v.2.map (ay .m)))]⟩
instance(b:Int)(c:Nat×Int×List aq)(d:Int×List aq):CL (Iv b c d) rm [0,1,2,6,7,8] [1000000000] (Tk b c d) (qX 4 [0,1,2,6,7] [1000000000] (Fu b c d)):=⟨fun g o h=>by
 have e:=ZA @Tk.eq_1 @Fu.eq_1;unfold Iv at h;simp only[ZC,Tk,rm];obtain⟨a,h⟩|⟨a,h⟩:=aw h
 ·obtain⟨j,i,h⟩:=ah h;refine ZF a ?_;refine ZWG a (w_k N0 _ _ _ _ _ _ i) [1000000000] [] ?_;cases h;exact ZL a e
 ·cases h;exact ZL a e⟩
def Sr(a:Int)(b:Nat×Int×List aq)(v:Int×List aq):St:=⟨[(0,.sl 1000000000 0 b.1),(1,.i a),(2,.fn 238 []),(6,.i v.1)],[(1000000000,.arr 3 (v.2.map (ay .m)))]⟩
instance(b:Int)(c:Nat×Int×List aq):CL (No b c) qy [0,1,2,6] [1000000000] (Sr b c) (qX 2 [] [1000000000] (je)):=⟨fun d o h=>by
 have e:=ZA @Sr.eq_1 @je.eq_1;unfold No at h;simp only[ZC,Sr,qy];obtain⟨a,h⟩|⟨a,h⟩:=aw h
 ·obtain⟨k,i,h⟩:=ah h;try refine ZF a ?_
  refine aD (bb (aJ CL.w i ?_)) ?_
  ·exact ZK (ZA @Tk.eq_1 @Fu.eq_1)
  ·simp only[ZC,Fu,yr];obtain⟨g,h⟩|⟨g,h⟩:=aw h
   ·obtain⟨l,j,h⟩:=ah h;have f:=ZA a g;refine ZF f ?_;refine ZWG f (w_k N0 _ _ _ _ _ _ j) [1000000000] [] ?_;cases h;exact ZL f e
   ·cases h;exact ZL (ZA a g) e
 ·cases h;exact ZL a e⟩
instance(a:Int)(b:List aq):CW (Wv a b) (fun(r:List aq)=>OkM A1 260 [.sl 1000000000 0 b.length,.i a,.fn 238 []] [(1000000000,.arr 3 (b.map (ay .m)))] (.tup []) ([(1000000000,.arr 3 (r.map (ay .m)))])):=⟨fun r h=>by
 refine aZ (lr:=[1000000000]) br Zz rfl rfl ?_;unfold Wv at h;simp only[ZC,RD,bP];obtain⟨c,j,h⟩:=ah h;try refine ZF trivial ?_
 refine aD (bb (aJ CL.w j ?_)) ?_
 ·exact ZK (ZA @Sk.eq_1 @Fr.eq_1)
 ·simp only[ZC,Fr,Az];obtain⟨l,k,h⟩:=ah h;refine ZF trivial ?_;refine ZWG trivial (CW.w _ k) [1000000000] [] ?_;obtain⟨p,d,h⟩:=ah h;try refine ZF trivial ?_
  first|refine dz (bb (aJ CL.w d ?_)) (fun τ g=>?_)|refine eC (aJ CL.w d ?_) (fun τ g=>?_)
  ·exact ZK (ZA @Sr.eq_1 @je.eq_1)
  ·cases h;refine gW g (by decide) ?_ rfl;exact ZK (ZA @bP.eq_1 @je.eq_1)⟩
instance(a:List aq):CW (OT a) (fun(r:List aq)=>OkM A1 237 [.sl 1000000000 0 a.length,.fn 238 []] [(1000000000,.arr 3 (a.map (ay .m)))] (.tup []) ([(1000000000,.arr 3 (r.map (ay .m)))])):=⟨fun r h=>by
 refine aZ (lr:=[1000000000]) br acg rfl rfl ?_;unfold OT at h;simp only[ZC,NS,bP];obtain⟨c,b,h⟩:=ah h;refine ZF trivial ?_;refine ZWG trivial (CW.w _ b) [1000000000] [] ?_;cases h;exact ZL trivial @bP.eq_1⟩
instance(a:List aq):CW (Tm a) (fun(r:Nat×Nat×List aq)=>OkM A1 211 [.sl 1000000000 0 a.length] [(1000000000,.arr 3 (a.map (ay .m)))] (.sl 1000000000 r.1 r.2.1) ([(1000000000,.arr 3 (r.2.2.map (ay .m)))])):=⟨fun r h=>by
 refine aZ (lr:=[1000000000]) br aat rfl rfl ?_;unfold Tm at h;simp only[ZC,Kf,bL];obtain⟨c,b,h⟩:=ah h;refine ZF trivial ?_;refine ZWG trivial (CW.w _ b) [1000000000] [] ?_;cases h;exact ZL trivial @bL.eq_1⟩
instance(d:ae)(j:List az)(a:aM):CW (Ky d j a) (fun(r:aq×Bool)=>OkM A1 156 [(au .o d),.lst .o 2 (j.map (aB .o)),(aQ .o a)] [] (.tup [.agg [.i (((r.1).F).N),.lst .m 1 ((((r.1).F).F).map AV.i),.i ((r.1).N)],.b r.2]) ([])):=⟨fun r h=>by
 refine aZ (lr:=[]) br YX rfl rfl ?_;unfold Ky at h;simp only[ZC,PC,wU];obtain⟨k,l,h⟩:=ah h;refine ZF trivial ?_;refine ZWG trivial (CW.w _ l) [6] [1500006] ?_;obtain⟨p,q,h⟩:=ah h;try refine ZF trivial ?_
 refine aD (sh:=(fun v=>⟨[(6,.pt 6 0 0),(8,.sl 8 0 k.2.length),(23,.b v)],[(6,.var (.agg [.i 0,.lst .u 1 [],.i 0])),(8,.arr 3 (k.2.map (ay .m)))]⟩)) (s:=p) ?_ ?_
 ·replace h:=q;obtain⟨g,h⟩|⟨g,h⟩:=aw h
  ·cases h;exact ZL g trivial
  ·cases h;exact ZL g trivial
 ·simp only[ZC,zI];obtain⟨c,h⟩|⟨c,h⟩:=aw h
  ·cases h;exact ZL c @wU.eq_1
  ·obtain⟨y,t,h⟩:=ah h;refine ZF c ?_;refine ZWG c (CW.w _ t) [1000000000] [] ?_;obtain⟨a1,w,h⟩:=ah h;obtain⟨b1,x,h⟩:=ah h;cases h;exact ZL (ZA c (ZA (ba w) x)) @wU.eq_1⟩
def Wl(g:ae)(a:Bool×List aq)(c:Bool×Int×aq×aq)(d:aq)(v:Bool×Int×aq×aq):St:=⟨[(3,.pt 3 0 0),(6,.pt 6 0 0),(7,.pt 7 0 0),(9,.sl 9 0 a.2.length),(11,.pt 11 0 0),(12,.pt 12 0 0),(13,.b v.1),(15,.pt 15 0 0),(34,.sl 9 0 a.2.length),(35,.i (a.2.length:Int)),(36,.i c.2.1),(44,.sl 9 (B4 (IntKind.wrap .i64 (c.2.1+1))) (a.2.length-(B4 (IntKind.wrap .i64 (c.2.1+1))))),(45,.i (((a.2.length-(B4 (IntKind.wrap .i64 (c.2.1+1)))):Nat):Int)),(46,.i v.2.1)],[(3,.var (au .o g)),(6,.var (.agg [.i 0,.lst .u 1 [],.i 0])),(7,.var (.agg [.i 0,.lst .u 1 [],.i 0])),(9,.arr 3 (a.2.map (ay .m))),(11,.var (ay .m v.2.2.1)),(12,.var (ay .m v.2.2.2)),(15,.var (ay .m d))]⟩
def Ep(c:ae)(a:Bool×List aq)(d:Bool×Int×aq×aq)(v:Bool×aq×aq):St:=⟨[(3,.pt 3 0 0),(6,.pt 6 0 0),(7,.pt 7 0 0),(9,.sl 9 0 a.2.length),(11,.pt 11 0 0),(12,.pt 12 0 0),(13,.b v.1),(34,.sl 9 0 a.2.length),(35,.i (a.2.length:Int)),(36,.i d.2.1)],[(3,.var (au .o c)),(6,.var (.agg [.i 0,.lst .u 1 [],.i 0])),(7,.var (.agg [.i 0,.lst .u 1 [],.i 0])),(9,.arr 3 (a.2.map (ay .m))),(11,.var (ay .m v.2.1)),(12,.var (ay .m v.2.2))]⟩
instance(k:ae)(c:Bool×List aq)(d:Bool×Int×aq×aq)(j:aq):CL (Hx k c d j) qG [3,6,7,9,11,12,13,15,34,35,36,44,45,46] [3,6,7,9,11,12,15] (Wl k c d j) (qX 2 [3,6,7,9,11,12,13,34,35,36] [3,6,7,9,11,12] (Ep k c d)):=⟨fun a o h=>by
 have e:=ZA @Wl.eq_1 @Ep.eq_1;unfold Hx at h;simp only[ZC,Wl,qG];obtain⟨x,h⟩|⟨x,h⟩:=aw h
 ·obtain⟨w2,j1,h⟩:=ah h;obtain⟨x2,k1,h⟩:=ah h;obtain⟨y2,l1,h⟩:=ah h;have f:=ZA x (ZA (ba j1) k1);refine ZF f ?_;refine ZSG f (CW.w _ l1) ?_;obtain⟨y,h⟩|⟨y,h⟩:=aw h
  ·cases h;exact ZL (ZA f y) e
  ·obtain⟨g,m1,h⟩:=ah h;have f:=ZA f y;try refine ZF f ?_
   refine aD (sh:=(fun v=>⟨[(3,.pt 3 0 0),(6,.pt 6 0 0),(7,.pt 7 0 0),(9,.sl 9 0 c.2.length),(11,.pt 11 0 0),(12,.pt 12 0 0),(13,.b a.1),(15,.pt 15 0 0),(18,.pt 18 0 0),(19,.pt 19 0 0),(34,.sl 9 0 c.2.length),(35,.i (c.2.length:Int)),(36,.i d.2.1),(44,.sl 9 (B4 (IntKind.wrap .i64 (d.2.1+1))) (c.2.length-(B4 (IntKind.wrap .i64 (d.2.1+1))))),(45,.i (((c.2.length-(B4 (IntKind.wrap .i64 (d.2.1+1)))):Nat):Int)),(46,.i a.2.1)],[(3,.var (au .o k)),(6,.var (.agg [.i 0,.lst .u 1 [],.i 0])),(7,.var (.agg [.i 0,.lst .u 1 [],.i 0])),(9,.arr 3 (c.2.map (ay .m))),(11,.var (ay .m a.2.2.1)),(12,.var (ay .m a.2.2.2)),(15,.var (ay .m j)),(18,.var (ay .m v.1)),(19,.var (ay .m v.2))]⟩)) (s:=g) ?_ ?_
   ·replace h:=m1;obtain⟨z2,p1,h⟩:=ah h;refine ZF f ?_;refine ZSG f (CW.w _ p1) ?_;obtain⟨a3,q1,h⟩:=ah h;refine ZF f ?_;refine ZSG f (CW.w _ q1) ?_;obtain⟨a1,h⟩|⟨a1,h⟩:=aw h
    ·cases h;exact ZL (ZA f a1) trivial
    ·cases h;exact ZL (ZA f a1) trivial
   ·simp only[ZC,yK];obtain⟨b3,s1,h⟩:=ah h;refine ZF f ?_;refine ZSG f (CW.w _ s1) ?_;obtain⟨c3,t1,h⟩:=ah h;refine ZF f ?_;refine ZSG f (CW.w _ t1) ?_;obtain⟨d3,u1,h⟩:=ah h;refine ZF f ?_;refine ZSG f (CW.w _ u1) ?_;obtain⟨g3,v1,h⟩:=ah h;refine ZF f ?_;refine ZSG f (CW.w _ v1) ?_;obtain⟨w1,y1,h⟩:=ah h;refine ZF f ?_;refine ZSG f (CW.w _ y1) ?_;obtain⟨q,p,h⟩:=bf h;have z1:Row.arr 1 [(.i w1:AV),(.i 0:AV)]=Row.arr 1 (q.map AV.i):=by rw[<-p];rfl
    have l:q.length=2:=by rw[<-p];rfl
    have a2:sub (q.map AV.i) 0 2=q.map AV.i:=nC _ (by simp[<-p]);obtain⟨b2,c2,h⟩:=ah h;have f:=ZA f (ZA z1 (ZA l a2));refine ZF f ?_;refine ZSG f (CW.w _ c2) ?_;obtain⟨d2,g2,h⟩:=ah h;try refine ZF f ?_
    refine aD (sh:=(fun v=>⟨[(3,.pt 3 0 0),(6,.pt 6 0 0),(7,.pt 7 0 0),(9,.sl 9 0 c.2.length),(11,.pt 11 0 0),(12,.pt 12 0 0),(13,.b a.1),(15,.pt 15 0 0),(18,.pt 18 0 0),(19,.pt 19 0 0),(20,.i v),(34,.sl 9 0 c.2.length),(35,.i (c.2.length:Int)),(36,.i d.2.1),(44,.sl 9 (B4 (IntKind.wrap .i64 (d.2.1+1))) (c.2.length-(B4 (IntKind.wrap .i64 (d.2.1+1))))),(45,.i (((c.2.length-(B4 (IntKind.wrap .i64 (d.2.1+1)))):Nat):Int)),(46,.i a.2.1)],[(3,.var (au .o k)),(6,.var (.agg [.i 0,.lst .u 1 [],.i 0])),(7,.var (.agg [.i 0,.lst .u 1 [],.i 0])),(9,.arr 3 (c.2.map (ay .m))),(11,.var (ay .m a.2.2.1)),(12,.var (ay .m a.2.2.2)),(15,.var (ay .m j)),(18,.var (ay .m g.1)),(19,.var (ay .m g.2))]⟩)) (s:=d2) ?_ ?_
    ·replace h:=g2;obtain⟨i2,j2,h⟩:=ah h;try refine ZF f ?_
     refine aD (sh:=(fun v=>⟨[(3,.pt 3 0 0),(6,.pt 6 0 0),(7,.pt 7 0 0),(9,.sl 9 0 c.2.length),(11,.pt 11 0 0),(12,.pt 12 0 0),(13,.b a.1),(15,.pt 15 0 0),(18,.pt 18 0 0),(19,.pt 19 0 0),(20,.i b2),(34,.sl 9 0 c.2.length),(35,.i (c.2.length:Int)),(36,.i d.2.1),(44,.sl 9 (B4 (IntKind.wrap .i64 (d.2.1+1))) (c.2.length-(B4 (IntKind.wrap .i64 (d.2.1+1))))),(45,.i (((c.2.length-(B4 (IntKind.wrap .i64 (d.2.1+1)))):Nat):Int)),(46,.i a.2.1),(85,.b v)],[(3,.var (au .o k)),(6,.var (.agg [.i 0,.lst .u 1 [],.i 0])),(7,.var (.agg [.i 0,.lst .u 1 [],.i 0])),(9,.arr 3 (c.2.map (ay .m))),(11,.var (ay .m a.2.2.1)),(12,.var (ay .m a.2.2.2)),(15,.var (ay .m j)),(18,.var (ay .m g.1)),(19,.var (ay .m g.2))]⟩)) (s:=i2) ?_ ?_
     ·replace h:=j2;obtain⟨b1,h⟩|⟨b1,h⟩:=aw h
      ·cases h;exact ZL (ZA f b1) (ZA p.symm l)
      ·cases h;exact ZL (ZA f b1) (ZA p.symm l)
     ·simp only[ZC,Ad];obtain⟨c1,h⟩|⟨c1,h⟩:=aw h
      ·obtain⟨k2,l2,h⟩:=ah h;have f:=ZA f c1;refine ZF f ?_;refine ZSG f (CW.w _ l2) ?_;obtain⟨m2,p2,h⟩:=ah h;refine ZF f ?_;refine ZSG f (CW.w _ p2) ?_;obtain⟨t,w,h⟩:=bf h;have q2:Row.arr 1 [(.i k2:AV),(.i m2:AV)]=Row.arr 1 (t.map AV.i):=by rw[<-w];rfl
       have i1:t.length=2:=by rw[<-w];rfl
       have s2:sub (t.map AV.i) 0 2=t.map AV.i:=nC _ (by simp[<-w]);obtain⟨i3,t2,h⟩:=ah h;have f:=ZA f (ZA q2 (ZA i1 s2));refine ZF f ?_;refine ZSG f (CW.w _ t2) ?_;cases h;exact ZL f (ZA w.symm (ZA l i1))
      ·cases h;exact ZL (ZA f c1) l
    ·simp only[ZC,xc];obtain⟨u2,v2,h⟩:=ah h;try refine ZF f ?_
     refine aD (sh:=(fun v=>⟨[(3,.pt 3 0 0),(6,.pt 6 0 0),(7,.pt 7 0 0),(9,.sl 9 0 c.2.length),(11,.pt 11 0 0),(12,.pt 12 0 0),(13,.b a.1),(15,.pt 15 0 0),(18,.pt 18 0 0),(19,.pt 19 0 0),(34,.sl 9 0 c.2.length),(35,.i (c.2.length:Int)),(36,.i d.2.1),(44,.sl 9 (B4 (IntKind.wrap .i64 (d.2.1+1))) (c.2.length-(B4 (IntKind.wrap .i64 (d.2.1+1))))),(45,.i (((c.2.length-(B4 (IntKind.wrap .i64 (d.2.1+1)))):Nat):Int)),(46,.i a.2.1),(105,.b v)],[(3,.var (au .o k)),(6,.var (.agg [.i 0,.lst .u 1 [],.i 0])),(7,.var (.agg [.i 0,.lst .u 1 [],.i 0])),(9,.arr 3 (c.2.map (ay .m))),(11,.var (ay .m a.2.2.1)),(12,.var (ay .m a.2.2.2)),(15,.var (ay .m j)),(18,.var (ay .m g.1)),(19,.var (ay .m g.2))]⟩)) (s:=u2) ?_ ?_
     ·replace h:=v2;obtain⟨d1,h⟩|⟨d1,h⟩:=aw h
      ·cases h;exact ZL (ZA f d1) l
      ·cases h;exact ZL (ZA f d1) l
     ·simp only[ZC,yM];obtain⟨g1,h⟩|⟨g1,h⟩:=aw h
      ·cases h;exact ZL (ZA f g1) (ZA e l)
      ·cases h;exact ZL (ZA f g1) (ZA e l)
 ·cases h;exact ZL x e⟩
def SX(c:ae)(a:Bool×List aq)(v:Bool×Int×aq×aq):St:=⟨[(3,.pt 3 0 0),(6,.pt 6 0 0),(7,.pt 7 0 0),(9,.sl 9 0 a.2.length),(11,.pt 11 0 0),(12,.pt 12 0 0),(13,.b v.1),(34,.sl 9 0 a.2.length),(35,.i (a.2.length:Int)),(36,.i v.2.1)],[(3,.var (au .o c)),(6,.var (.agg [.i 0,.lst .u 1 [],.i 0])),(7,.var (.agg [.i 0,.lst .u 1 [],.i 0])),(9,.arr 3 (a.2.map (ay .m))),(11,.var (ay .m v.2.2.1)),(12,.var (ay .m v.2.2.2))]⟩
def Fk(v:Bool×aq×aq):St:=⟨[(6,.pt 6 0 0),(7,.pt 7 0 0),(11,.pt 11 0 0),(12,.pt 12 0 0),(13,.b v.1)],[(6,.var (.agg [.i 0,.lst .u 1 [],.i 0])),(7,.var (.agg [.i 0,.lst .u 1 [],.i 0])),(11,.var (ay .m v.2.1)),(12,.var (ay .m v.2.2))]⟩
instance(c:ae)(a:Bool×List aq):CL (Cf c a) qk [3,6,7,9,11,12,13,34,35,36] [3,6,7,9,11,12] (SX c a) (qX 0 [6,7,11,12,13] [6,7,11,12] (Fk)):=⟨fun d o h=>by
 have e:=ZA @SX.eq_1 @Fk.eq_1;unfold Cf at h;simp only[ZC,SX,qk];obtain⟨g,h⟩|⟨g,h⟩:=aw h
 ·obtain⟨p,q,h⟩:=ah h;try refine ZF g ?_
  refine aD (sh:=(fun v=>⟨[(3,.pt 3 0 0),(6,.pt 6 0 0),(7,.pt 7 0 0),(9,.sl 9 0 a.2.length),(11,.pt 11 0 0),(12,.pt 12 0 0),(13,.b v.1),(34,.sl 9 0 a.2.length),(35,.i (a.2.length:Int)),(36,.i d.2.1)],[(3,.var (au .o c)),(6,.var (.agg [.i 0,.lst .u 1 [],.i 0])),(7,.var (.agg [.i 0,.lst .u 1 [],.i 0])),(9,.arr 3 (a.2.map (ay .m))),(11,.var (ay .m v.2.1)),(12,.var (ay .m v.2.2))]⟩)) (s:=p) ?_ ?_
  ·replace h:=q;obtain⟨y,t,h⟩:=ah h;obtain⟨j,w,h⟩:=ah h;obtain⟨a1,x,h⟩:=ah h;obtain⟨b1,k,h⟩:=ah h;try refine ZF (ZA g (ZA (ba t) (ZA w (ba x)))) ?_
   first|refine dz (bb (aJ CL.w k ?_)) (fun τ l=>?_)|refine eC (aJ CL.w k ?_) (fun τ l=>?_)
   ·exact ZK (ZA @Wl.eq_1 @Ep.eq_1)
   ·cases h;try refine ZF trivial ?_
    refine⟨rfl,Shp.sub l (by decide) (by decide) ?_⟩;exact ZK @Ep.eq_1
  ·simp only[ZC,xb];cases h;exact ZL g e
 ·cases h;exact ZL g e⟩
instance(c:ae)(g:List az)(a:aM):CW (La c g a) (fun(r:aq×aq×Bool)=>OkM A1 124 [(au .o c),.lst .o 2 (g.map (aB .o)),(aQ .o a)] [] (.tup [.agg [.i (((r.1).F).N),.lst .m 1 ((((r.1).F).F).map AV.i),.i ((r.1).N)],.agg [.i (((r.2.1).F).N),.lst .m 1 ((((r.2.1).F).F).map AV.i),.i ((r.2.1).N)],.b r.2.2]) ([])):=⟨fun r h=>by
 refine aZ (lr:=[]) br adz rfl rfl ?_;unfold La at h;simp only[ZC,LO,ws];obtain⟨j,k,h⟩:=ah h;refine ZF trivial ?_;refine ZWG trivial (CW.w _ k) [6] [2600006] ?_;obtain⟨d,h⟩|⟨d,h⟩:=aw h
 ·cases h;exact ZL d @ws.eq_1
 ·obtain⟨p,l,h⟩:=ah h;try refine ZF d ?_
  refine aD (bb (aJ CL.w l ?_)) ?_
  ·exact ZK (ZA @SX.eq_1 @Fk.eq_1)
  ·simp only[ZC,Fk,yf];cases h;exact ZL d @ws.eq_1⟩
theorem w_dq(a:af)(p1Z0:ae)(p2Z0:af){r:Bool}(h:Qx a p1Z0 p2Z0=some r):Ok A1 212 [(aj .o a),.bp .o (au .o p1Z0) 0,.bp .o (aj .o p2Z0) 0] (.b r):=by
 refine aL br m212 rfl ?_;unfold Qx at h;simp only[ZC,A212,aO,aY];obtain⟨d,c,h⟩:=ah h;refine ZF trivial ?_;refine ZSG trivial (CW.w _ c) ?_;cases h;exact ZL trivial @aO.eq_1
instance(a:af)(p1Z0:ae)(p2Z0:af):CW (Qx a p1Z0 p2Z0) (fun(r:Bool)=>Ok A1 212 [(aj .o a),.bp .o (au .o p1Z0) 0,.bp .o (aj .o p2Z0) 0] (.b r)):=⟨fun r h=>w_dq a p1Z0 p2Z0 h⟩
instance(c:ae)(d:List af)(a:af):CW (te c d a) (fun(r:Bool)=>Ok A1 159 [(au .o c),.lst .o 10 (d.map (aj .o)),(aj .o a)] (.b r)):=⟨fun r h=>by
 refine aL br m159 rfl ?_;unfold te at h;simp only[ZC,A159,dx,aY];obtain⟨j,g,h⟩:=ah h;refine ZF trivial ?_;refine ZSG trivial (SZ _ _ g 212 [.bp .o (.agg [.lst .o 1 (c.N.map AV.z),.lst .o 4 (c.F.map (aF .o))]) 0,.bp .o (.agg [.i a.Id,.i a.W,.i a.N.N,.lst .o 1 (a.N.F.map AV.i),.i a.P.N,.i a.P.F,.i a.F.N,.lst .o 1 (a.F.F.map AV.i),.i a.L.N,.i a.L.F]) 0] ⟨fun ρ k=>by simp only[VS1,VS2,VS3,VS4,VS5,VS6,VT1,VT2,bC,bB,decide_true,decide_false,B0,A8,du,dr,dq,ne_eq,not_false_eq_true,B1,B2,true_and,false_and,A5,A6,↓reduceIte,reduceCtorEq,A2,A7,A3,B3],by simp[aP,AV.ments]⟩ (fun _ _ h=>w_dq _ _ _ h)) ?_;cases h;exact ZL trivial @dx.eq_1⟩
instance(c:aH)(a:af)(d:ae)(g:List af):CW (ZX c a d g) (fun(r:Bool×af×ae×List af)=>OkM A1 158 [(bD .o c),.pt 1000000000 0 0,.pt 1000000001 0 0,.pt 1000000002 0 0] [(1000000000,.var (aj .m a)),(1000000001,.var (au .o d)),(1000000002,.var (.lst .o 10 (g.map (aj .o))))] (.b r.1) ([(1000000000,.var (.agg [.i ((r.2.1).Id),.i ((r.2.1).W),.i (((r.2.1).N).N),.lst .m 1 ((((r.2.1).N).F).map AV.i),.i (((r.2.1).P).N),.i (((r.2.1).P).F),.i (((r.2.1).F).N),.lst .m 1 ((((r.2.1).F).F).map AV.i),.i (((r.2.1).L).N),.i (((r.2.1).L).F)])),(1000000001,.var (.agg [.lst .o 1 (((r.2.2.1).N).map AV.z),.lst .o 4 (((r.2.2.1).F).map (aF .o))])),(1000000002,.var (.lst .o 10 (r.2.2.2.map (aj .o))))])):=⟨fun r h=>by
 refine aZ (lr:=[1000000000,1000000001,1000000002]) br abt rfl rfl ?_;unfold ZX at h;simp only[ZC,Kl,Au];obtain⟨k,j,h⟩:=ah h;refine ZF trivial ?_;refine ZSG trivial (CW.w _ j) ?_;cases h;exact ZL trivial @Au.eq_1⟩
def S_l(a:Int)(v:Int×ae×List af×af):St:=⟨[(0,.i a),(1,.fn 158 [.pt 1000000002 0 0,.pt 1000000000 0 0,.pt 1000000001 0 0]),(4,.pt 4 0 0),(6,.i v.1)],[(4,.var (.agg [.i 0,.i 0])),(1000000000,.var (au .o v.2.1)),(1000000001,.var (.lst .o 10 (v.2.2.1.map (aj .o)))),(1000000002,.var (aj .m v.2.2.2))]⟩
def yF(v:ae×List af×af):St:=⟨[(4,.pt 4 0 0)],[(4,.var (.agg [.i 0,.i 0])),(1000000000,.var (au .o v.1)),(1000000001,.var (.lst .o 10 (v.2.1.map (aj .o)))),(1000000002,.var (aj .m v.2.2))]⟩
instance(c:Int):CL (M_l c) rZ [0,1,4,6] [4,1000000000,1000000001,1000000002] (S_l c) (qS (qX 0 [4] [4,1000000000,1000000001,1000000002] (yF)) (qM iQ [1000000000,1000000001,1000000002] (fun(r:aH×Bool×ae×List af×af)=>.tup [.agg [.i ((r.1).N),.i ((r.1).F)],.b r.2.1]) (fun(r:aH×Bool×ae×List af×af)=>[(1000000000,.var (.agg [.lst .o 1 (((r.2.2.1).N).map AV.z),.lst .o 4 (((r.2.2.1).F).map (aF .o))])),(1000000001,.var (.lst .o 10 (r.2.2.2.1.map (aj .o)))),(1000000002,.var (.agg [.i ((r.2.2.2.2).Id),.i ((r.2.2.2.2).W),.i (((r.2.2.2.2).N).N),.lst .m 1 ((((r.2.2.2.2).N).F).map AV.i),.i (((r.2.2.2.2).P).N),.i (((r.2.2.2.2).P).F),.i (((r.2.2.2.2).F).N),.lst .m 1 ((((r.2.2.2.2).F).F).map AV.i),.i (((r.2.2.2.2).L).N),.i (((r.2.2.2.2).L).F)]))]))):=⟨fun g o h=>by
 have e:=ZA @S_l.eq_1 @yF.eq_1;unfold M_l at h;simp only[ZC,S_l,rZ];obtain⟨a,h⟩|⟨a,h⟩:=aw h
 ·obtain⟨k,j,h⟩:=ah h;refine ZF a ?_;refine ZWG a (CW.w _ j) [1000000000,1000000001,1000000002] [] ?_;obtain⟨d,h⟩|⟨d,h⟩:=aw h
  ·cases h;exact ZL (ZA a d) @iQ.eq_1
  ·cases h;exact ZL (ZA a d) e
 ·cases h;exact ZL a e⟩
instance(c:Int)(d:ae)(g:List af)(a:af):CW (BH c d g a) (fun(r:aH×Bool×ae×List af×af)=>OkM A1 157 [.i c,.fn 158 [.pt 1000000002 0 0,.pt 1000000000 0 0,.pt 1000000001 0 0]] [(1000000000,.var (au .o d)),(1000000001,.var (.lst .o 10 (g.map (aj .o)))),(1000000002,.var (aj .m a))] (.tup [.agg [.i ((r.1).N),.i ((r.1).F)],.b r.2.1]) ([(1000000000,.var (.agg [.lst .o 1 (((r.2.2.1).N).map AV.z),.lst .o 4 (((r.2.2.1).F).map (aF .o))])),(1000000001,.var (.lst .o 10 (r.2.2.2.1.map (aj .o)))),(1000000002,.var (.agg [.i ((r.2.2.2.2).Id),.i ((r.2.2.2.2).W),.i (((r.2.2.2.2).N).N),.lst .m 1 ((((r.2.2.2.2).N).F).map AV.i),.i (((r.2.2.2.2).P).N),.i (((r.2.2.2.2).P).F),.i (((r.2.2.2.2).F).N),.lst .m 1 ((((r.2.2.2.2).F).F).map AV.i),.i (((r.2.2.2.2).L).N),.i (((r.2.2.2.2).L).F)]))])):=⟨fun r h=>by
 refine aZ (lr:=[1000000000,1000000001,1000000002]) br adr rfl rfl ?_;unfold BH at h;simp only[ZC,QM,iQ];obtain⟨j,k,h⟩:=ah h;try refine ZF trivial ?_
 refine bW (o:=j) (co yG (aJ CL.w k ?_)) (fun p hv=>?_) (fun q hv e τ hne hq=>?_)
 ·exact ZK (ZA @S_l.eq_1 @yF.eq_1)
 ·subst hv;simp only[] at h;simp only[ZC,yF,xj];cases h;exact ZL trivial @iQ.eq_1
 ·subst hv;simp only[] at h;obtain⟨rfl,l⟩:=hq;cases h;exact l⟩
instance(c:aH)(a:af)(d:ae)(g:List af):CW (ZZ c a d g) (fun(r:Bool×af×ae×List af)=>OkM A1 160 [(bD .o c),.pt 1000000000 0 0,.pt 1000000001 0 0,.pt 1000000002 0 0] [(1000000000,.var (aj .m a)),(1000000001,.var (au .o d)),(1000000002,.var (.lst .o 10 (g.map (aj .o))))] (.b r.1) ([(1000000000,.var (.agg [.i ((r.2.1).Id),.i ((r.2.1).W),.i (((r.2.1).N).N),.lst .m 1 ((((r.2.1).N).F).map AV.i),.i (((r.2.1).P).N),.i (((r.2.1).P).F),.i (((r.2.1).F).N),.lst .m 1 ((((r.2.1).F).F).map AV.i),.i (((r.2.1).L).N),.i (((r.2.1).L).F)])),(1000000001,.var (.agg [.lst .o 1 (((r.2.2.1).N).map AV.z),.lst .o 4 (((r.2.2.1).F).map (aF .o))])),(1000000002,.var (.lst .o 10 (r.2.2.2.map (aj .o))))])):=⟨fun r h=>by
 refine aZ (lr:=[1000000000,1000000001,1000000002]) br aar rfl rfl ?_;unfold ZZ at h;simp only[ZC,PH,Au];obtain⟨k,j,h⟩:=ah h;refine ZF trivial ?_;refine ZSG trivial (CW.w _ j) ?_;cases h;exact ZL trivial @Au.eq_1⟩
def Wg(a:Int)(v:Int×ae×List af×af):St:=⟨[(0,.i a),(1,.fn 160 [.pt 1000000002 0 0,.pt 1000000000 0 0,.pt 1000000001 0 0]),(4,.pt 4 0 0),(6,.i v.1)],[(4,.var (.agg [.i 0,.i 0])),(1000000000,.var (au .o v.2.1)),(1000000001,.var (.lst .o 10 (v.2.2.1.map (aj .o)))),(1000000002,.var (aj .m v.2.2.2))]⟩
instance(c:Int):CL (Db c) rj [0,1,4,6] [4,1000000000,1000000001,1000000002] (Wg c) (qS (qX 0 [4] [4,1000000000,1000000001,1000000002] (yF)) (qM iQ [1000000000,1000000001,1000000002] (fun(r:aH×Bool×ae×List af×af)=>.tup [.agg [.i ((r.1).N),.i ((r.1).F)],.b r.2.1]) (fun(r:aH×Bool×ae×List af×af)=>[(1000000000,.var (.agg [.lst .o 1 (((r.2.2.1).N).map AV.z),.lst .o 4 (((r.2.2.1).F).map (aF .o))])),(1000000001,.var (.lst .o 10 (r.2.2.2.1.map (aj .o)))),(1000000002,.var (.agg [.i ((r.2.2.2.2).Id),.i ((r.2.2.2.2).W),.i (((r.2.2.2.2).N).N),.lst .m 1 ((((r.2.2.2.2).N).F).map AV.i),.i (((r.2.2.2.2).P).N),.i (((r.2.2.2.2).P).F),.i (((r.2.2.2.2).F).N),.lst .m 1 ((((r.2.2.2.2).F).F).map AV.i),.i (((r.2.2.2.2).L).N),.i (((r.2.2.2.2).L).F)]))]))):=⟨fun g o h=>by
 have e:=ZA @Wg.eq_1 @yF.eq_1;unfold Db at h;simp only[ZC,Wg,rj];obtain⟨a,h⟩|⟨a,h⟩:=aw h
 ·obtain⟨k,j,h⟩:=ah h;refine ZF a ?_;refine ZWG a (CW.w _ j) [1000000000,1000000001,1000000002] [] ?_;obtain⟨d,h⟩|⟨d,h⟩:=aw h
  ·cases h;exact ZL (ZA a d) @iQ.eq_1
  ·cases h;exact ZL (ZA a d) e
 ·cases h;exact ZL a e⟩
instance(c:Int)(d:ae)(g:List af)(a:af):CW (CY c d g a) (fun(r:aH×Bool×ae×List af×af)=>OkM A1 157 [.i c,.fn 160 [.pt 1000000002 0 0,.pt 1000000000 0 0,.pt 1000000001 0 0]] [(1000000000,.var (au .o d)),(1000000001,.var (.lst .o 10 (g.map (aj .o)))),(1000000002,.var (aj .m a))] (.tup [.agg [.i ((r.1).N),.i ((r.1).F)],.b r.2.1]) ([(1000000000,.var (.agg [.lst .o 1 (((r.2.2.1).N).map AV.z),.lst .o 4 (((r.2.2.1).F).map (aF .o))])),(1000000001,.var (.lst .o 10 (r.2.2.2.1.map (aj .o)))),(1000000002,.var (.agg [.i ((r.2.2.2.2).Id),.i ((r.2.2.2.2).W),.i (((r.2.2.2.2).N).N),.lst .m 1 ((((r.2.2.2.2).N).F).map AV.i),.i (((r.2.2.2.2).P).N),.i (((r.2.2.2.2).P).F),.i (((r.2.2.2.2).F).N),.lst .m 1 ((((r.2.2.2.2).F).F).map AV.i),.i (((r.2.2.2.2).L).N),.i (((r.2.2.2.2).L).F)]))])):=⟨fun r h=>by
 refine aZ (lr:=[1000000000,1000000001,1000000002]) br acp rfl rfl ?_;unfold CY at h;simp only[ZC,Lp,iQ];obtain⟨j,k,h⟩:=ah h;try refine ZF trivial ?_
 refine bW (o:=j) (co yG (aJ CL.w k ?_)) (fun p hv=>?_) (fun q hv e τ hne hq=>?_)
 ·exact ZK (ZA @Wg.eq_1 @yF.eq_1)
 ·subst hv;simp only[] at h;simp only[ZC,yF,zB];cases h;exact ZL trivial @iQ.eq_1
 ·subst hv;simp only[] at h;obtain⟨rfl,l⟩:=hq;cases h;exact l⟩
def S_n(b:ae)(c:List az)(d:List af)(a:aM)(v:af):St:=⟨[(1,.lst .o 2 (c.map (aB .o))),(4,.pt 4 0 0),(6,.pt 6 0 0),(7,.pt 7 0 0),(8,.pt 8 0 0),(10,.pt 10 0 0)],[(4,.var (au .o b)),(6,.var (.lst .o 10 (d.map (aj .o)))),(7,.var (aQ .o a)),(8,.var (.agg [.i 0,.i 0,.i 0,.lst .u 1 [],.i 0,.i 0,.i 0,.lst .u 1 [],.i 0,.i 0])),(10,.var (aj .m v))]⟩
theorem w_n(c:ae)(d:List az)(b:List af)(g:aM)(a:af)(o:af⊕af)(h:M_n b a=some o):AWP (OkS A1) vg (qL [1,4,6,7,8,10] [4,6,7,8,10] (S_n c d b g) (qX 0 [1,4,6,7,8,10] [4,6,7,8,10] (S_n c d b g)) o) (S_n c d b g a):=by
 have e:=ZA @S_n.eq_1 @S_n.eq_1;unfold M_n at h;simp only[ZC,S_n,vg];obtain⟨m,l,h⟩:=ah h;refine ZF trivial ?_;refine ZSG trivial (SZ _ _ l 155 [.bp .o (.agg [.i a.Id,.i a.W,.i a.N.N,.lst .o 1 (a.N.F.map AV.i),.i a.P.N,.i a.P.F,.i a.F.N,.lst .o 1 (a.F.F.map AV.i),.i a.L.N,.i a.L.F]) 0] ⟨fun ρ k=>by simp only[VS1,VS2,VS3,VS4,VS5,VS6,VT1,VT2,bC,bB,decide_true,decide_false,B0,A8,du,dr,dq,ne_eq,not_false_eq_true,B1,B2,true_and,false_and,A5,A6,↓reduceIte,reduceCtorEq,A2,A7,A3,B3],by simp[aP,AV.ments]⟩ (fun _ _ h=>w_ec _ _ h)) ?_;obtain⟨j,h⟩|⟨j,h⟩:=aw h
 ·cases h;exact ZL j e
 ·cases h;exact ZL j e
instance(j:ae)(q:List az)(l:List af)(c:aM):CW (VJ j q l c) (fun(r:af×Bool)=>OkM A1 85 [(au .o j),.lst .o 2 (q.map (aB .o)),.lst .o 10 (l.map (aj .o)),(aQ .o c)] [] (.tup [.agg [.i ((r.1).Id),.i ((r.1).W),.i (((r.1).N).N),.lst .m 1 ((((r.1).N).F).map AV.i),.i (((r.1).P).N),.i (((r.1).P).F),.i (((r.1).F).N),.lst .m 1 ((((r.1).F).F).map AV.i),.i (((r.1).L).N),.i (((r.1).L).F)],.b r.2]) ([])):=⟨fun r h=>by
 refine aZ (lr:=[]) br afz rfl rfl ?_;unfold VJ at h;simp only[ZC,Yg,zX];obtain⟨d,x,h⟩:=ah h;try refine ZF trivial ?_
 refine aD (bb (aJ (w_n j q l c) x ?_)) ?_
 ·exact ZK (ZA @S_n.eq_1 @S_n.eq_1)
 ·simp only[ZC,S_n,DZ];obtain⟨j1,y,h⟩:=ah h;refine ZF trivial ?_;refine ZWG trivial (CW.w _ y) [] [] ?_;obtain⟨p,a1,h⟩:=ah h;try refine ZF trivial ?_
  refine aD (sh:=(fun v=>⟨[(4,.pt 4 0 0),(6,.pt 6 0 0),(7,.pt 7 0 0),(8,.pt 8 0 0),(10,.pt 10 0 0),(11,.pt 11 0 0),(12,.b v.1),(13,.pt 13 0 0)],[(4,.var (au .o j)),(6,.var (.lst .o 10 (l.map (aj .o)))),(7,.var (aQ .o c)),(8,.var (.agg [.i 0,.i 0,.i 0,.lst .u 1 [],.i 0,.i 0,.i 0,.lst .u 1 [],.i 0,.i 0])),(10,.var (aj .m d)),(11,.var (ay .m v.2.1)),(13,.var (ay .m v.2.2))]⟩)) (s:=p) ?_ ?_
  ·replace h:=a1;obtain⟨k,h⟩|⟨k,h⟩:=aw h
   ·obtain⟨k1,b1,h⟩:=ah h;refine ZF k ?_;refine ZWG k (CW.w _ b1) [] [] ?_;cases h;exact ZL k trivial
   ·cases h;exact ZL k trivial
  ·simp only[ZC,Ff];obtain⟨g,h⟩|⟨g,h⟩:=aw h
   ·cases h;exact ZL g @zX.eq_1
   ·obtain⟨a,c1,h⟩:=ah h;refine ZF g ?_;refine ZWG g (CW.w _ c1) [1000000000,1000000001,1000000002] [] ?_;obtain⟨d1,g1,h⟩:=ah h;try refine ZF g ?_
    refine aD (sh:=(fun v=>⟨[(4,.pt 4 0 0),(6,.pt 6 0 0),(8,.pt 8 0 0),(10,.pt 10 0 0),(12,.b a.2.1),(13,.pt 13 0 0),(64,.b v)],[(4,.var (au .o a.2.2.1)),(6,.var (.lst .o 10 (a.2.2.2.1.map (aj .o)))),(8,.var (.agg [.i 0,.i 0,.i 0,.lst .u 1 [],.i 0,.i 0,.i 0,.lst .u 1 [],.i 0,.i 0])),(10,.var (.agg [.i ((a.2.2.2.2).Id),.i ((c).W),.i (((a.2.2.2.2).N).N),.lst .m 1 ((((a.2.2.2.2).N).F).map AV.i),.i ((a.1).N),.i ((a.1).F),.i (((a.2.2.2.2).F).N),.lst .m 1 ((((a.2.2.2.2).F).F).map AV.i),.i (((a.2.2.2.2).L).N),.i (((a.2.2.2.2).L).F)])),(13,.var (ay .m p.2.2))]⟩)) (s:=d1) ?_ ?_
    ·replace h:=g1;obtain⟨t,h⟩|⟨t,h⟩:=aw h
     ·cases h;exact ZL (ZA g t) trivial
     ·cases h;exact ZL (ZA g t) trivial
    ·simp only[ZC,EA];obtain⟨w,h⟩|⟨w,h⟩:=aw h
     ·cases h;exact ZL (ZA g w) @zX.eq_1
     ·obtain⟨l1,i1,h⟩:=ah h;have f:=ZA g w;refine ZF f ?_;refine ZWG f (CW.w _ i1) [1000000000,1000000001,1000000002] [] ?_;cases h;exact ZL f @zX.eq_1⟩
instance(a:ai):CW (OS a) (fun(r:ai)=>Ok A1 161 [(ax .o a)] (.agg [.i r.N,.lst .u 1 (r.F.map AV.i)])):=⟨fun r h=>ZO m161 (OS.eq_1 _) trivial (ZA @V32.eq_1 @A161.eq_1) h⟩
def UP(a:List af)(v:Int×List af):St:=⟨[(3,.sl 3 0 v.2.length),(7,.lst .o 10 (a.map (aj .o))),(8,.i (a.length:Int)),(9,.i v.1)],[(3,.arr 10 (v.2.map (aj .u)))]⟩
instance(d:List af):CL (JA d) NF [3,7,8,9] [3] (UP d) (qX 0 [3] [3] (AC)):=⟨fun b o h=>by
 have e:=ZA @UP.eq_1 @AC.eq_1;unfold JA at h;simp only[ZC,UP,NF];obtain⟨g,h⟩|⟨g,h⟩:=aw h
 ·obtain⟨a,v,h⟩:=ah h;obtain⟨l,w,h⟩:=ah h;have f:=ZA g (bc v);refine ZF f ?_;refine ZUG f (CW.w _ w) ?_;obtain⟨m,x,h⟩:=ah h;refine ZF f ?_;refine ZUG f (CW.w _ x) ?_;obtain⟨j,c,h⟩:=bf h;have y:Row.arr 10 [(.agg [.i a.Id,.i a.W,.i l.N,.lst .u 1 (l.F.map AV.i),.i a.P.N,.i a.P.F,.i m.N,.lst .u 1 (m.F.map AV.i),.i a.L.N,.i a.L.F]:AV)]=Row.arr 10 (j.map (aj .u)):=by rw[<-c];rfl
  have p:j.length=1:=by rw[<-c];rfl
  obtain⟨b1,z,h⟩:=ah h;have q:=ba z;obtain⟨s,k,h⟩:=bf h;have a1:b.2.map (aj .u)++j.map (aj .u)=s.map (aj .u):=by rw[<-k,A4]
  have t:b.2.length+1=s.length:=by simp[<-c,<-k]<;>omega
  rw[t] at q;cases h;exact ZL (ZA f (ZA y (ZA p (ZA q (ZA a1 t))))) (ZA e (ZA c.symm (ZA k.symm p)))
 ·cases h;exact ZL g e⟩
instance(a:List af):CW (Ac a) (fun(r:List af)=>Ok A1 86 [.lst .o 10 (a.map (aj .o))] (.lst .u 10 (r.map (aj .u)))):=⟨fun r h=>by
 refine aL br m86 rfl ?_;unfold Ac at h;simp only[ZC,A86,bL,aY];obtain⟨c,b,h⟩:=ah h;try refine ZF trivial ?_
 refine aD (bb (aJ CL.w b ?_)) ?_
 ·exact ZK (ZA @UP.eq_1 @AC.eq_1)
 ·simp only[ZC,AC,Yp];cases h;exact ZL trivial @bL.eq_1⟩
def S_y(c:List af)(a:af×Bool)(b:List af)(v:Int):St:=⟨[(2,.lst .o 10 (c.map (aj .o))),(11,.pt 11 0 0),(13,.sl 13 0 b.length),(14,.i v)],[(11,.var (aj .m a.1)),(13,.arr 10 (b.map (aj .u)))]⟩
def WZ(a:af×Bool)(b:List af)(v:Int):St:=⟨[(11,.pt 11 0 0),(13,.sl 13 0 b.length),(14,.i v)],[(11,.var (aj .m a.1)),(13,.arr 10 (b.map (aj .u)))]⟩
instance(c:List af)(a:af×Bool):CX (M_y c a) Ph [2,11,13,14] [11,13] (List af) (fun d=>(S_y c a d)) (fun d=>(qX 0 [11,13,14] [11,13] (WZ a d))):=⟨fun d i o h=>by
 have e:=ZA @S_y.eq_1 @WZ.eq_1;unfold M_y at h;simp only[ZC,S_y,Ph];obtain⟨b,h⟩|⟨b,h⟩:=aw h
 ·obtain⟨k,j,h⟩:=ah h;obtain⟨g,h⟩|⟨g,h⟩:=aw h
  ·cases h;exact ZL (ZA b (ZA (bc j) g)) e
  ·cases h;exact ZL (ZA b (ZA (bc j) g)) e
 ·cases h;exact ZL b e⟩
instance(j:ae)(q:List az)(k:List af)(c:aM):CW (zP j q k c) (fun(r:List af×Int×Bool)=>Ok A1 22 [(au .o j),.lst .o 2 (q.map (aB .o)),.lst .o 10 (k.map (aj .o)),(aQ .o c)] (.tup [.lst .u 10 (r.1.map (aj .u)),.i r.2.1,.b r.2.2])):=⟨fun r h=>by
 refine aL br m22 rfl ?_;unfold zP at h;simp only[ZC,A22,oB,aY];obtain⟨d1,g1,h⟩:=ah h;try refine ZF trivial ?_
 refine aD (sh:=(fun v=>⟨[(1,.lst .o 2 (q.map (aB .o))),(2,.lst .o 10 (k.map (aj .o))),(4,.pt 4 0 0),(7,.pt 7 0 0),(23,.b v)],[(4,.var (au .o j)),(7,.var (aQ .o c))]⟩)) (s:=d1) ?_ ?_
 ·replace h:=g1;obtain⟨s1,i1,h⟩:=ah h;refine ZF trivial ?_;refine ZSG trivial (CW.w _ i1) ?_;obtain⟨t,h⟩|⟨t,h⟩:=aw h
  ·cases h;exact ZL t trivial
  ·cases h;exact ZL t trivial
 ·simp only[ZC,Xy];obtain⟨d,h⟩|⟨d,h⟩:=aw h
  ·cases h;exact ZL d @oB.eq_1
  ·obtain⟨a,j1,h⟩:=ah h;refine ZF d ?_;refine ZWG d (CW.w _ j1) [] [] ?_;obtain⟨l,h⟩|⟨l,h⟩:=aw h
   ·cases h;exact ZL (ZA d l) @oB.eq_1
   ·obtain⟨w,k1,h⟩:=ah h;have f:=ZA d l;refine ZF f ?_;refine ZUG f (CW.w _ k1) ?_;obtain⟨t1,l1,h⟩:=ah h;try refine ZF f ?_
    refine aD (bb (aJ (CX.w w) l1 ?_)) ?_
    ·exact ZK (ZA @S_y.eq_1 @WZ.eq_1)
    ·simp only[ZC,WZ,Yo];obtain⟨p,g,h⟩:=bf h;have y:Row.arr 10 [(.agg [.i ((a.1).Id),.i ((a.1).W),.i (((a.1).N).N),.lst .m 1 ((((a.1).N).F).map AV.i),.i (((a.1).P).N),.i (((a.1).P).F),.i (((a.1).F).N),.lst .m 1 ((((a.1).F).F).map AV.i),.i (((a.1).L).N),.i (((a.1).L).F)]:AV)]=Row.arr 10 (p.map (aj .m)):=by rw[<-g];rfl
     have x:p.length=1:=by rw[<-g];rfl
     have a1:sub (p.map (aj .m)) 0 1=p.map (aj .m):=nC _ (by simp[<-g]);obtain⟨b1,m1,h⟩:=ah h;have f:=ZA f (ZA y (ZA x a1));refine ZF f ?_;refine⟨fun _=>trivial,?_⟩;refine ZUG f (CW.w _ m1) ?_;obtain⟨p1,c1,h⟩:=ah h;have q1:p1.length=w.length+b1.length:=xt c1;refine ZF f ?_;refine kn (by simp only[VS1,VS2,VS3,VS4,VS5,VS6,VT1,VT2,bC,bB,decide_true,decide_false,B0,A8,du,dr,dq,ne_eq,not_false_eq_true,B1,B2,true_and,false_and,A5,A6,↓reduceIte,reduceCtorEq,A2,A7,A3,B3,d,l,y,x,a1];exact(WV agb ((aj .u)) (xs:=w) (ys:=b1) (by simp[<-g]) (by simp[<-g]) c1)) (by simp[VS1,VS2,VS3,VS4,VS5,VS6,VT1,VT2]) (by first|exact vK [0] [5800000] rfl (by decide+kernel) (by simp[VS1,VS2,VS3,VS4,VS5,VS6,VT1,VT2])|simp[VS1,VS2,VS3,VS4,VS5,VS6,VT1,VT2]) ?_;refine ZG ?_;cases h;exact ZL f (ZA @oB.eq_1 (ZA g.symm (ZA q1 x)))⟩
def Uf(a:List Int)(b:List Int)(v:Int):St:=⟨[(0,.lst .o 1 (a.map AV.i)),(1,.lst .o 1 (b.map AV.i)),(5,.i v)],[]⟩
instance(c:List Int)(d:List Int):CL (Jg c d) DL [0,1,5] [] (Uf c d) (qS (qX 0 [] [] (ce)) (qR aO (fun r=>.b r))):=⟨fun i o h=>by
 unfold Jg at h;simp only[ZC,Uf,DL];exact ZT trivial (ZA @Uf.eq_1 (ZA @ce.eq_1 (ZA @aO.eq_1 @DL.eq_1))) h⟩
instance(c:List Int)(d:List Int):CW (Nn c d) (fun(r:Bool)=>Ok A1 36 [.lst .o 1 (c.map AV.i),.lst .o 1 (d.map AV.i)] (.b r)):=⟨fun r h=>ZO m36 (Nn.eq_1 _ _) ZJ (ZA @Uf.eq_1 (ZA @ce.eq_1 (ZA @Yj.eq_1 (ZA @aO.eq_1 @A36.eq_1)))) h⟩
instance(c:ai)(d:ai):CW (Hm c d) (fun(r:Bool)=>Ok A1 48 [(ax .o c),(ax .o d)] (.b r)):=⟨fun r h=>ZO m48 (Hm.eq_1 _ _) trivial (ZA @aO.eq_1 @A48.eq_1) h⟩
instance(c:aH)(d:aH):CW (Jn c d) (fun(r:Bool)=>Ok A1 180 [(bD .o c),(bD .o d)] (.b r)):=⟨fun r h=>ZO m180 (Jn.eq_1 _ _) trivial (ZA @aO.eq_1 @A180.eq_1) h⟩
instance(a:af)(c:af):CW (Gw a c) (fun(r:Bool)=>Ok A1 118 [(aj .o a),(aj .o c)] (.b r)):=⟨fun r h=>by
 have e:=@aO.eq_1;refine aL br m118 rfl ?_;unfold Gw at h;simp only[ZC,A118,aO,aY];obtain⟨d,h⟩|⟨d,h⟩:=aw h
 ·cases h;exact ZL d e
 ·obtain⟨g,h⟩|⟨g,h⟩:=aw h
  ·cases h;exact ZL (ZA d g) e
  ·obtain⟨u,p,h⟩:=ah h;have f:=ZA d g;refine ZF f ?_;refine ZSG f (CW.w _ p) ?_;obtain⟨j,h⟩|⟨j,h⟩:=aw h
   ·cases h;exact ZL (ZA f j) e
   ·obtain⟨v,q,h⟩:=ah h;have f:=ZA f j;refine ZF f ?_;refine ZSG f (CW.w _ q) ?_;obtain⟨k,h⟩|⟨k,h⟩:=aw h
    ·cases h;exact ZL (ZA f k) e
    ·obtain⟨w,s,h⟩:=ah h;have f:=ZA f k;refine ZF f ?_;refine ZSG f (CW.w _ s) ?_;obtain⟨l,h⟩|⟨l,h⟩:=aw h
     ·cases h;exact ZL (ZA f l) e
     ·obtain⟨x,t,h⟩:=ah h;have f:=ZA f l;refine ZF f ?_;refine ZSG f (CW.w _ t) ?_;obtain⟨m,h⟩|⟨m,h⟩:=aw h
      ·cases h;exact ZL (ZA f m) e
      ·cases h;exact ZL (ZA f m) e⟩
def Tg(a:List af)(b:List af)(v:Int):St:=⟨[(0,.lst .o 10 (a.map (aj .o))),(1,.lst .o 10 (b.map (aj .o))),(5,.i v)],[]⟩
instance(a:List af)(c:List af):CL (Hh a c) KY [0,1,5] [] (Tg a c) (qS (qX 0 [] [] (ce)) (qR aO (fun r=>.b r))):=⟨fun i o h=>by
 have e:=ZA @Tg.eq_1 @ce.eq_1;unfold Hh at h;simp only[ZC,Tg,KY];obtain⟨d,h⟩|⟨d,h⟩:=aw h
 ·obtain⟨m,j,h⟩:=ah h;obtain⟨p,k,h⟩:=ah h;obtain⟨q,l,h⟩:=ah h;have f:=ZA d (ZA (bc j) (bc k));refine ZF f ?_;refine ZSG f (CW.w _ l) ?_;obtain⟨g,h⟩|⟨g,h⟩:=aw h
  ·cases h;exact ZL (ZA f g) @aO.eq_1
  ·cases h;exact ZL (ZA f g) e
 ·cases h;exact ZL d e⟩
instance(c:List af)(d:List af):CW (Ay c d) (fun(r:Bool)=>Ok A1 38 [.lst .o 10 (c.map (aj .o)),.lst .o 10 (d.map (aj .o))] (.b r)):=⟨fun r h=>by
 refine aL br m38 rfl ?_;unfold Ay at h;simp only[ZC,A38,aO,aY];obtain⟨a,h⟩|⟨a,h⟩:=aw h
 ·cases h;exact ZL a @aO.eq_1
 ·obtain⟨g,i,h⟩:=ah h;try refine ZF a ?_
  refine bW (o:=g) (co fM (aJ CL.w i ?_)) (fun k hv=>?_) (fun l hv e τ hne hq=>?_)
  ·exact ZK (ZA @Tg.eq_1 @ce.eq_1)
  ·subst hv;simp only[] at h;simp only[ZC,ce,Xw];cases h;exact ZL a @aO.eq_1
  ·subst hv;simp only[] at h;obtain⟨rfl,j⟩:=hq;cases h;exact j⟩
def Vh(a:List ByteArray)(b:List ByteArray)(v:Int):St:=⟨[(0,.lst .o 1 (a.map AV.z)),(1,.lst .o 1 (b.map AV.z)),(5,.i v)],[]⟩
instance(c:List ByteArray)(d:List ByteArray):CL (Jo c d) wJ [0,1,5] [] (Vh c d) (qS (qX 0 [] [] (ce)) (qR aO (fun r=>.b r))):=⟨fun i o h=>by
 unfold Jo at h;simp only[ZC,Vh,wJ];exact ZT trivial (ZA @Vh.eq_1 (ZA @ce.eq_1 (ZA @aO.eq_1 @wJ.eq_1))) h⟩
instance(c:List ByteArray)(d:List ByteArray):CW (PI c d) (fun(r:Bool)=>Ok A1 116 [.lst .o 1 (c.map AV.z),.lst .o 1 (d.map AV.z)] (.b r)):=⟨fun r h=>ZO m116 (PI.eq_1 _ _) ZJ (ZA @Vh.eq_1 (ZA @ce.eq_1 (ZA @Mi.eq_1 (ZA @aO.eq_1 @A116.eq_1)))) h⟩
instance(c:aG)(d:aG):CW (JS c d) (fun(r:Bool)=>Ok A1 179 [(aF .o c),(aF .o d)] (.b r)):=⟨fun r h=>ZO m179 (JS.eq_1 _ _) trivial (ZA @abu.eq_1 (ZA @aO.eq_1 @abu.eq_1)) h⟩
def UC(a:List aG)(b:List aG)(v:Int):St:=⟨[(0,.lst .o 4 (a.map (aF .o))),(1,.lst .o 4 (b.map (aF .o))),(5,.i v)],[]⟩
instance(a:List aG)(c:List aG):CL (GR a c) wq [0,1,5] [] (UC a c) (qS (qX 0 [] [] (ce)) (qR aO (fun r=>.b r))):=⟨fun i o h=>by
 unfold GR at h;simp only[ZC,UC,wq];exact ZT trivial (ZA @UC.eq_1 (ZA @ce.eq_1 (ZA @aO.eq_1 @wq.eq_1))) h⟩
instance(c:List aG)(d:List aG):CW (Pc c d) (fun(r:Bool)=>Ok A1 117 [.lst .o 4 (c.map (aF .o)),.lst .o 4 (d.map (aF .o))] (.b r)):=⟨fun r h=>ZO m117 (Pc.eq_1 _ _) ZJ (ZA @UC.eq_1 (ZA @ce.eq_1 (ZA @OL.eq_1 (ZA @aO.eq_1 @A117.eq_1)))) h⟩
instance(c:ae)(d:ae):CW (Ll c d) (fun(r:Bool)=>Ok A1 37 [(au .o c),(au .o d)] (.b r)):=⟨fun r h=>ZO m37 (Ll.eq_1 _ _) trivial (ZA @aO.eq_1 @A37.eq_1) h⟩
instance(c:az)(d:az):CW (Il c d) (fun(r:Bool)=>Ok A1 125 [(aB .o c),(aB .o d)] (.b r)):=⟨fun r h=>by
 refine aL br m125 rfl ?_;unfold Il at h;simp only[ZC,A125,aO,aY];obtain⟨a,h⟩|⟨a,h⟩:=aw h
 ·cases h;exact ZL a @aO.eq_1
 ·obtain⟨g,h⟩|⟨g,h⟩:=aw h
  ·cases h;exact ZL (ZA a g) @aO.eq_1
  ·cases h;exact ZL (ZA a g) @aO.eq_1⟩
def VC(a:List az)(b:List az)(v:Int):St:=⟨[(0,.lst .o 2 (a.map (aB .o))),(1,.lst .o 2 (b.map (aB .o))),(5,.i v)],[]⟩
instance(a:List az)(c:List az):CL (GZ a c) Qj [0,1,5] [] (VC a c) (qS (qX 0 [] [] (ce)) (qR aO (fun r=>.b r))):=⟨fun i o h=>by
 have e:=ZA @VC.eq_1 @ce.eq_1;unfold GZ at h;simp only[ZC,VC,Qj];obtain⟨d,h⟩|⟨d,h⟩:=aw h
 ·obtain⟨m,j,h⟩:=ah h;obtain⟨p,k,h⟩:=ah h;obtain⟨q,l,h⟩:=ah h;have f:=ZA d (ZA (bc j) (bc k));refine ZF f ?_;refine ZSG f (CW.w _ l) ?_;obtain⟨g,h⟩|⟨g,h⟩:=aw h
  ·cases h;exact ZL (ZA f g) @aO.eq_1
  ·cases h;exact ZL (ZA f g) e
 ·cases h;exact ZL d e⟩
instance(c:List az)(d:List az):CW (LZ c d) (fun(r:Bool)=>Ok A1 49 [.lst .o 2 (c.map (aB .o)),.lst .o 2 (d.map (aB .o))] (.b r)):=⟨fun r h=>by
 refine aL br m49 rfl ?_;unfold LZ at h;simp only[ZC,A49,aO,aY];obtain⟨a,h⟩|⟨a,h⟩:=aw h
 ·cases h;exact ZL a @aO.eq_1
 ·obtain⟨g,i,h⟩:=ah h;try refine ZF a ?_
  refine bW (o:=g) (co fM (aJ CL.w i ?_)) (fun k hv=>?_) (fun l hv e τ hne hq=>?_)
  ·exact ZK (ZA @VC.eq_1 @ce.eq_1)
  ·subst hv;simp only[] at h;simp only[ZC,ce,XM];cases h;exact ZL a @aO.eq_1
  ·subst hv;simp only[] at h;obtain⟨rfl,j⟩:=hq;cases h;exact j⟩
def Sh(v:Int×ByteArray):St:=⟨[(0,.i v.1),(3,.z v.2)],[]⟩
def Rv(v:ByteArray):St:=⟨[(3,.z v)],[]⟩
instance:CL (Gb) Cc [0,3] [] (Sh) (qX 0 [3] [] (Rv)):=⟨fun c o h=>by
 have e:=ZA @Sh.eq_1 @Rv.eq_1;unfold Gb at h;simp only[ZC,Sh,Cc];obtain⟨d,h⟩|⟨d,h⟩:=aw h
 ·obtain⟨p,i,h⟩:=ah h;obtain⟨a,b,h⟩:=bf h;have j:Row.arr 1 [(.sc (.int .u8 (IntKind.wrap .u8 (IntKind.wrap .i64 (48+(Int.tmod c.1 10))))):AV)]=Row.arr 1 (a.map AV.u8):=by rw[<-b];rfl
  have g:a.length=1:=by rw[<-b];rfl
  have k:sub (a.map AV.u8) 0 1=a.map AV.u8:=nC _ (by simp[<-b]);obtain⟨q,l,h⟩:=ah h;obtain⟨s,m,h⟩:=ah h;cases h;exact ZL (ZA d (ZA (ba i) (ZA j (ZA g (ZA k (ZA (ba l) (ba m))))))) (ZA e (ZA b.symm g))
 ·cases h;exact ZL d e⟩
instance(b:Int):CW (Bs b) (fun(r:ByteArray)=>Ok A1 181 [.i b] (.z r)):=⟨fun r h=>ZO m181 (Bs.eq_1 _) ZJ (ZA @Sh.eq_1 (ZA @Rv.eq_1 (ZA @Py.eq_1 (ZA @bL.eq_1 @A181.eq_1)))) h⟩
def WC(v:Int×Int×List ByteArray):St:=⟨[(0,.sl 1000000000 0 v.2.2.length),(1,.i v.1),(5,.i v.2.1)],[(1000000000,.arr 1 (v.2.2.map AV.z))]⟩
def LF(v:Int×List ByteArray):St:=⟨[(1,.i v.1)],[(1000000000,.arr 1 (v.2.map AV.z))]⟩
instance:CL (Gk) mT [0,1,5] [1000000000] (WC) (qX 0 [1] [1000000000] (LF)):=⟨fun b o h=>by
 unfold Gk at h;simp only[ZC,WC,mT];exact ZT ZJB (ZA @WC.eq_1 (ZA @LF.eq_1 @mT.eq_1)) h⟩
instance(b:Int)(a:List ByteArray):CW (NG b a) (fun(r:Int×List ByteArray)=>OkM A1 119 [.sl 1000000000 0 a.length,.i b] [(1000000000,.arr 1 (a.map AV.z))] (.i r.1) ([(1000000000,.arr 1 (r.2.map AV.z))])):=⟨fun r h=>by
 refine aZ (lr:=[1000000000]) br aak rfl rfl ?_;unfold NG at h;simp only[ZC,Px,aO];exact ZT ZJ (ZA @WC.eq_1 (ZA @LF.eq_1 (ZA @aO.eq_1 @Aq.eq_1))) h⟩
def Xc(v:Int×Int×List aG):St:=⟨[(0,.sl 1000000000 0 v.2.2.length),(1,.i v.1),(5,.i v.2.1)],[(1000000000,.arr 4 (v.2.2.map (aF .u)))]⟩
def Ma(v:Int×List aG):St:=⟨[(1,.i v.1)],[(1000000000,.arr 4 (v.2.map (aF .u)))]⟩
instance:CL (IB) qp [0,1,5] [1000000000] (Xc) (qX 0 [1] [1000000000] (Ma)):=⟨fun a o h=>by
 have e:=ZA @Xc.eq_1 @Ma.eq_1;unfold IB at h;simp only[ZC,Xc,qp];obtain⟨b,h⟩|⟨b,h⟩:=aw h
 ·obtain⟨i1,v,h⟩:=ah h;obtain⟨c,w,h⟩:=ah h;obtain⟨k,l,h⟩:=bf h;have x:(a.2.2.map (aF .u)).set (B4 a.2.1) (.agg [.i a.1,.i c.B,.i c.N,.i c.F])=k.map (aF .u):=by rw[<-l,C0];rfl
  obtain⟨d,y,h⟩:=ah h;obtain⟨m,p,h⟩:=bf h;have z:(k.map (aF .u)).set (B4 a.2.1) (.agg [.i d.A,.i (IntKind.wrap .i64 (a.1+1)),.i d.N,.i d.F])=m.map (aF .u):=by rw[<-p,C0];rfl
  obtain⟨g,a1,h⟩:=ah h;obtain⟨q,s,h⟩:=bf h;have b1:(m.map (aF .u)).set (B4 a.2.1) (.agg [.i g.A,.i g.B,.i (IntKind.wrap .i64 ((IntKind.wrap .i64 (a.1+1))+1)),.i g.F])=q.map (aF .u):=by rw[<-s,C0];rfl
  obtain⟨j,c1,h⟩:=ah h;obtain⟨d1,t,h⟩:=bf h;have g1:(q.map (aF .u)).set (B4 a.2.1) (.agg [.i j.A,.i j.B,.i j.N,.i (IntKind.wrap .i64 ((IntKind.wrap .i64 ((IntKind.wrap .i64 (a.1+1))+1))+1))])=d1.map (aF .u):=by rw[<-t,C0];rfl
  cases h;exact ZL (ZA b (ZA (ba v) (ZA w (ZA x (ZA y (ZA z (ZA a1 (ZA b1 (ZA c1 g1))))))))) (ZA e (ZA l.symm (ZA p.symm (ZA s.symm t.symm))))
 ·cases h;exact ZL b e⟩
instance(b:Int)(a:List aG):CW (Pz b a) (fun(r:Int×List aG)=>OkM A1 120 [.sl 1000000000 0 a.length,.i b] [(1000000000,.arr 4 (a.map (aF .u)))] (.i r.1) ([(1000000000,.arr 4 (r.2.map (aF .u)))])):=⟨fun r h=>by
 refine aZ (lr:=[1000000000]) br abh rfl rfl ?_;unfold Pz at h;simp only[ZC,PG,aO];exact ZT ZJ (ZA @Xc.eq_1 (ZA @Ma.eq_1 (ZA @aO.eq_1 @xf.eq_1))) h⟩
instance(c:Int)(a:List ByteArray)(b:List aG):CW (Pq c a b) (fun(r:Int×List ByteArray×List aG)=>OkM A1 39 [.agg [.sl 1000000000 0 a.length,.sl 1000000001 0 b.length],.i c] [(1000000000,.arr 1 (a.map AV.z)),(1000000001,.arr 4 (b.map (aF .u)))] (.i r.1) ([(1000000000,.arr 1 (r.2.1.map AV.z)),(1000000001,.arr 4 (r.2.2.map (aF .u)))])):=⟨fun r h=>by
 refine aZ (lr:=[1000000000,1000000001]) br ags rfl rfl ?_;unfold Pq at h;simp only[ZC,Xv,aO];exact ZT trivial @aO.eq_1 h⟩
def TJ(v:Int×Int×List az):St:=⟨[(0,.sl 1000000000 0 v.2.2.length),(1,.i v.1),(5,.i v.2.1)],[(1000000000,.arr 2 (v.2.2.map (aB .u)))]⟩
def DT(v:Int×List az):St:=⟨[(1,.i v.1)],[(1000000000,.arr 2 (v.2.map (aB .u)))]⟩
instance:CL (Ig) wh [0,1,5] [1000000000] (TJ) (qX 0 [1] [1000000000] (DT)):=⟨fun a o h=>by
 have e:=ZA @TJ.eq_1 @DT.eq_1;unfold Ig at h;simp only[ZC,TJ,wh];obtain⟨b,h⟩|⟨b,h⟩:=aw h
 ·obtain⟨v,j,h⟩:=ah h;obtain⟨k,l,h⟩:=ah h;obtain⟨c,d,h⟩:=bf h;have m:(a.2.2.map (aB .u)).set (B4 a.2.1) (.agg [.i a.1,.i k.F])=c.map (aB .u):=by rw[<-d,C0];rfl
  obtain⟨p,q,h⟩:=ah h;obtain⟨s,g,h⟩:=bf h;have t:(c.map (aB .u)).set (B4 a.2.1) (.agg [.i p.N,.i (IntKind.wrap .i64 (a.1+1))])=s.map (aB .u):=by rw[<-g,C0];rfl
  cases h;exact ZL (ZA b (ZA (ba j) (ZA l (ZA m (ZA q t))))) (ZA e (ZA d.symm g.symm))
 ·cases h;exact ZL b e⟩
instance(b:Int)(a:List az):CW (Mb b a) (fun(r:Int×List az)=>OkM A1 50 [.sl 1000000000 0 a.length,.i b] [(1000000000,.arr 2 (a.map (aB .u)))] (.i r.1) ([(1000000000,.arr 2 (r.2.map (aB .u)))])):=⟨fun r h=>by
 refine aZ (lr:=[1000000000]) br agx rfl rfl ?_;unfold Mb at h;simp only[ZC,Yu,aO];obtain⟨d,c,h⟩:=ah h;try refine ZF trivial ?_
 refine aD (bb (aJ CL.w c ?_)) ?_
 ·exact ZK (ZA @TJ.eq_1 @DT.eq_1)
 ·simp only[ZC,DT,Dt];cases h;exact ZL trivial @aO.eq_1⟩
def Tj(v:Int×Int×List Int):St:=⟨[(0,.sl 1000000000 0 v.2.2.length),(1,.i v.1),(5,.i v.2.1)],[(1000000000,.arr 1 (v.2.2.map AV.i))]⟩
def MT(v:Int×List Int):St:=⟨[(1,.i v.1)],[(1000000000,.arr 1 (v.2.map AV.i))]⟩
instance:CL (GQ) pQ [0,1,5] [1000000000] (Tj) (qX 0 [1] [1000000000] (MT)):=⟨fun a o h=>by
 unfold GQ at h;simp only[ZC,Tj,pQ];exact ZT ZJB (ZA @Tj.eq_1 (ZA @MT.eq_1 @pQ.eq_1)) h⟩
theorem adp(b:Int)(a:List Int){r:Int×List Int}(h:CU b a=some r):OkM A1 41 [.sl 1000000000 0 a.length,.i b] [(1000000000,.arr 1 (a.map AV.i))] (.i r.1) ([(1000000000,.arr 1 (r.2.map AV.i))]):=by
 refine aZ (lr:=[1000000000]) br aev rfl rfl ?_;unfold CU at h;simp only[ZC,Yn,aO];exact ZT ZJ (ZA @Tj.eq_1 (ZA @MT.eq_1 (ZA @aO.eq_1 @Fq.eq_1))) h
instance(b:Int)(a:List Int):CW (CU b a) (fun(r:Int×List Int)=>OkM A1 41 [.sl 1000000000 0 a.length,.i b] [(1000000000,.arr 1 (a.map AV.i))] (.i r.1) ([(1000000000,.arr 1 (r.2.map AV.i))])):=⟨fun r h=>adp b a h⟩
def Ss(v:Int×Int×List af):St:=⟨[(0,.sl 1000000000 0 v.2.2.length),(1,.i v.1),(5,.i v.2.1)],[(1000000000,.arr 10 (v.2.2.map (aj .u)))]⟩
def DF(v:Int×List af):St:=⟨[(1,.i v.1)],[(1000000000,.arr 10 (v.2.map (aj .u)))]⟩
instance:CL (JF) wC [0,1,5] [1000000000] (Ss) (qX 0 [1] [1000000000] (DF)):=⟨fun c o h=>by
 have e:=ZA @Ss.eq_1 @DF.eq_1;unfold JF at h;simp only[ZC,Ss,wC];obtain⟨w,h⟩|⟨w,h⟩:=aw h
 ·obtain⟨g3,v2,h⟩:=ah h;obtain⟨x,y⟩:=ba v2;obtain⟨d,a1,h⟩:=ah h;obtain⟨k1,l1,h⟩:=bf h;have b1:(c.2.2.map (aj .u)).set (B4 c.2.1) (.agg [.i c.1,.i d.W,.i d.N.N,.lst .u 1 (d.N.F.map AV.i),.i d.P.N,.i d.P.F,.i d.F.N,.lst .u 1 (d.F.F.map AV.i),.i d.L.N,.i d.L.F])=k1.map (aj .u):=by rw[<-l1,C0];rfl
  obtain⟨g,c1,h⟩:=ah h;obtain⟨m1,p1,h⟩:=bf h;have d1:(k1.map (aj .u)).set (B4 c.2.1) (.agg [.i g.Id,.i (IntKind.wrap .i64 (c.1+1)),.i g.N.N,.lst .u 1 (g.N.F.map AV.i),.i g.P.N,.i g.P.F,.i g.F.N,.lst .u 1 (g.F.F.map AV.i),.i g.L.N,.i g.L.F])=m1.map (aj .u):=by rw[<-p1,C0];rfl
  obtain⟨j,g1,h⟩:=ah h;obtain⟨q1,s1,h⟩:=bf h;have i1:(m1.map (aj .u)).set (B4 c.2.1) (.agg [.i j.Id,.i j.W,.i (IntKind.wrap .i64 ((IntKind.wrap .i64 (c.1+1))+1)),.lst .u 1 (j.N.F.map AV.i),.i j.P.N,.i j.P.F,.i j.F.N,.lst .u 1 (j.F.F.map AV.i),.i j.L.N,.i j.L.F])=q1.map (aj .u):=by rw[<-s1,C0];rfl
  obtain⟨a,j1,h⟩:=ah h;obtain⟨s,w2,h⟩:=ah h;obtain⟨t1,u1,h⟩:=bf h;have v1:(q1.map (aj .u)).set (B4 c.2.1) (.agg [.i a.Id,.i a.W,.i a.N.N,.lst .u 1 (s.2.map AV.i),.i a.P.N,.i a.P.F,.i a.F.N,.lst .u 1 (a.F.F.map AV.i),.i a.L.N,.i a.L.F])=t1.map (aj .u):=by rw[<-u1,C0];rfl
  have f:=ZA w (ZA x (ZA y (ZA a1 (ZA b1 (ZA c1 (ZA d1 (ZA g1 (ZA i1 j1))))))));refine ZF f ?_;refine XX (v:=.int .i64 s.1) (ys':=s.2.map AV.i) (z:=.agg [.i a.Id,.i a.W,.i a.N.N,.lst .u 1 (s.2.map AV.i),.i a.P.N,.i a.P.F,.i a.F.N,.lst .u 1 (a.F.F.map AV.i),.i a.L.N,.i a.L.F]) (by simp only[VS1,VS2,VS3,VS4,VS5,VS6,VT1,VT2,bC,bB,decide_true,decide_false,B0,A8,du,dr,dq,ne_eq,not_false_eq_true,B1,B2,true_and,false_and,A5,A6,↓reduceIte,reduceCtorEq,A2,A7,A3,B3,w,x,y,a1,b1,c1,d1,g1,i1,j1];exact adp _ _ w2) (by simp[AV.flat,VT1,VT2]) (by simp[Ee,wM,dZ,cx,cZ,ww,EI,Fv,Fy,vN,cz,bU,ea,cv,pO,cY,cA,bS,px,pS,mA,dd,da,db,cW,cw,de,cu,df,cV,cX,Vo]) (by simp[VS1,VS2,VS3,VS4,VS5,VS6,VT1,VT2]) (by simp[AV.flat,VT1,VT2]) rfl ?_;refine ZG ?_;obtain⟨k,w1,h⟩:=ah h;obtain⟨y1,z1,h⟩:=bf h;have a2:(t1.map (aj .u)).set (B4 c.2.1) (.agg [.i k.Id,.i k.W,.i k.N.N,.lst .u 1 (k.N.F.map AV.i),.i s.1,.i k.P.F,.i k.F.N,.lst .u 1 (k.F.F.map AV.i),.i k.L.N,.i k.L.F])=y1.map (aj .u):=by rw[<-z1,C0];rfl
  obtain⟨l,b2,h⟩:=ah h;obtain⟨c2,d2,h⟩:=bf h;have g2:(y1.map (aj .u)).set (B4 c.2.1) (.agg [.i l.Id,.i l.W,.i l.N.N,.lst .u 1 (l.N.F.map AV.i),.i l.P.N,.i (IntKind.wrap .i64 (s.1+1)),.i l.F.N,.lst .u 1 (l.F.F.map AV.i),.i l.L.N,.i l.L.F])=c2.map (aj .u):=by rw[<-d2,C0];rfl
  obtain⟨m,i2,h⟩:=ah h;obtain⟨j2,k2,h⟩:=bf h;have l2:(c2.map (aj .u)).set (B4 c.2.1) (.agg [.i m.Id,.i m.W,.i m.N.N,.lst .u 1 (m.N.F.map AV.i),.i m.P.N,.i m.P.F,.i (IntKind.wrap .i64 ((IntKind.wrap .i64 (s.1+1))+1)),.lst .u 1 (m.F.F.map AV.i),.i m.L.N,.i m.L.F])=j2.map (aj .u):=by rw[<-k2,C0];rfl
  obtain⟨b,m2,h⟩:=ah h;obtain⟨t,x2,h⟩:=ah h;obtain⟨p2,q2,h⟩:=bf h;have y2:(j2.map (aj .u)).set (B4 c.2.1) (.agg [.i b.Id,.i b.W,.i b.N.N,.lst .u 1 (b.N.F.map AV.i),.i b.P.N,.i b.P.F,.i b.F.N,.lst .u 1 (t.2.map AV.i),.i b.L.N,.i b.L.F])=p2.map (aj .u):=by rw[<-q2,C0];rfl
  have f:=ZA f (ZA v1 (ZA w1 (ZA a2 (ZA b2 (ZA g2 (ZA i2 (ZA l2 m2)))))));refine ZF f ?_;refine XX (v:=.int .i64 t.1) (ys':=t.2.map AV.i) (z:=.agg [.i b.Id,.i b.W,.i b.N.N,.lst .u 1 (b.N.F.map AV.i),.i b.P.N,.i b.P.F,.i b.F.N,.lst .u 1 (t.2.map AV.i),.i b.L.N,.i b.L.F]) (by simp only[VS1,VS2,VS3,VS4,VS5,VS6,VT1,VT2,bC,bB,decide_true,decide_false,B0,A8,du,dr,dq,ne_eq,not_false_eq_true,B1,B2,true_and,false_and,A5,A6,↓reduceIte,reduceCtorEq,A2,A7,A3,B3,w,x,y,a1,b1,c1,d1,g1,i1,j1,v1,w1,a2,b2,g2,i2,l2,m2];exact adp _ _ x2) (by simp[AV.flat,VT1,VT2]) (by simp[Ee,wM,dZ,cx,cZ,ww,EI,Fv,Fy,vN,cz,bU,ea,cv,pO,cY,cA,bS,px,pS,mA,dd,da,db,cW,cw,de,cu,df,cV,cX,Vo]) (by simp[VS1,VS2,VS3,VS4,VS5,VS6,VT1,VT2]) (by simp[AV.flat,VT1,VT2]) rfl ?_;refine ZG ?_;obtain⟨p,z2,h⟩:=ah h;obtain⟨s2,t2,h⟩:=bf h;have a3:(p2.map (aj .u)).set (B4 c.2.1) (.agg [.i p.Id,.i p.W,.i p.N.N,.lst .u 1 (p.N.F.map AV.i),.i p.P.N,.i p.P.F,.i p.F.N,.lst .u 1 (p.F.F.map AV.i),.i t.1,.i p.L.F])=s2.map (aj .u):=by rw[<-t2,C0];rfl
  obtain⟨q,b3,h⟩:=ah h;obtain⟨c3,u2,h⟩:=bf h;have d3:(s2.map (aj .u)).set (B4 c.2.1) (.agg [.i q.Id,.i q.W,.i q.N.N,.lst .u 1 (q.N.F.map AV.i),.i q.P.N,.i q.P.F,.i q.F.N,.lst .u 1 (q.F.F.map AV.i),.i q.L.N,.i (IntKind.wrap .i64 (t.1+1))])=c3.map (aj .u):=by rw[<-u2,C0];rfl
  cases h;exact ZL (ZA f (ZA y2 (ZA z2 (ZA a3 (ZA b3 d3))))) (ZA e (ZA l1.symm (ZA p1.symm (ZA s1.symm (ZA u1.symm (ZA z1.symm (ZA d2.symm (ZA k2.symm (ZA q2.symm (ZA t2.symm u2.symm))))))))))
 ·cases h;exact ZL w e⟩
def TU(b:Int)(a:List af){r:Int×List af}(h:JJ b a=some r):OkH A1 40 [.sl 1000000000 0 a.length,.i b] [(1000000000,.arr 10 (a.map (aj .u)))] (.i r.1) ([(1000000000,.arr 10 (r.2.map (aj .u)))]):=by
 refine xZ (lr:=[1000000000]) br afo rfl ?_;unfold JJ at h;simp only[ZC,XJ,aO];obtain⟨d,c,h⟩:=ah h;try refine ZF trivial ?_
 refine aD (bb (aJ CL.w c ?_)) ?_
 ·exact ZK (ZA @Ss.eq_1 @DF.eq_1)
 ·simp only[ZC,DF,Ft];cases h;exact ZL trivial @aO.eq_1
def Xl(a:List Int)(v:Int×Int):St:=⟨[(0,.lst .o 1 (a.map AV.i)),(1,.i v.1),(5,.i v.2)],[]⟩
instance(b:List Int):CL (Je b) Fj [0,1,5] [] (Xl b) (qS (qX 0 [1] [] (md)) (qR aO (fun r=>.i r))):=⟨fun d o h=>by
 unfold Je at h;simp only[ZC,Xl,Fj];exact ZT trivial (ZA @Xl.eq_1 (ZA @md.eq_1 (ZA @aO.eq_1 @Fj.eq_1))) h⟩
instance(a:List Int)(b:Int):CW (AG a b) (fun(r:Int)=>Ok A1 42 [.lst .o 1 (a.map AV.i),.i b] (.i r)):=⟨fun r h=>ZO m42 (AG.eq_1 _ _) ZJ (ZA @Xl.eq_1 (ZA @md.eq_1 (ZA @Yy.eq_1 (ZA @aO.eq_1 @A42.eq_1)))) h⟩
instance(p:List af):CL (Ga p) Qm [0,1,5] [] (wj p) (qS (qX 0 [1] [] (md)) (qR aO (fun r=>.i r))):=⟨fun u o h=>by
 have e:=@aO.eq_1;unfold Ga at h;simp only[ZC,wj,Qm];obtain⟨a,h⟩|⟨a,h⟩:=aw h
 ·obtain⟨x,j,h⟩:=ah h;obtain⟨c,h⟩|⟨c,h⟩:=aw h
  ·cases h;exact ZL (ZA a (ZA (bc j) c)) e
  ·obtain⟨k,h⟩|⟨k,h⟩:=aw h
   ·cases h;exact ZL (ZA a (ZA (bc j) (ZA c k))) e
   ·obtain⟨q,h⟩|⟨q,h⟩:=aw h
    ·cases h;exact ZL (ZA a (ZA (bc j) (ZA c (ZA k q)))) e
    ·obtain⟨y,v,h⟩:=ah h;have f:=ZA a (ZA (bc j) (ZA c (ZA k q)));refine ZF f ?_;refine ZSG f (CW.w _ v) ?_;obtain⟨b,h⟩|⟨b,h⟩:=aw h
     ·cases h;exact ZL (ZA f b) e
     ·obtain⟨d,h⟩|⟨d,h⟩:=aw h
      ·cases h;exact ZL (ZA f (ZA b d)) e
      ·obtain⟨l,h⟩|⟨l,h⟩:=aw h
       ·cases h;exact ZL (ZA f (ZA b (ZA d l))) e
       ·obtain⟨s,h⟩|⟨s,h⟩:=aw h
        ·cases h;exact ZL (ZA f (ZA b (ZA d (ZA l s)))) e
        ·obtain⟨z,w,h⟩:=ah h;have f:=ZA f (ZA b (ZA d (ZA l s)));refine ZF f ?_;refine ZSG f (CW.w _ w) ?_;obtain⟨g,h⟩|⟨g,h⟩:=aw h
         ·cases h;exact ZL (ZA f g) e
         ·obtain⟨m,h⟩|⟨m,h⟩:=aw h
          ·cases h;exact ZL (ZA f (ZA g m)) e
          ·obtain⟨t,h⟩|⟨t,h⟩:=aw h
           ·cases h;exact ZL (ZA f (ZA g (ZA m t))) e
           ·cases h;exact ZL (ZA f (ZA g (ZA m t))) (ZA @wj.eq_1 @md.eq_1)
 ·cases h;exact ZL a (ZA @wj.eq_1 @md.eq_1)⟩
instance(a:List af)(b:Int):CW (Hi a b) (fun(r:Int)=>Ok A1 63 [.lst .o 10 (a.map (aj .o)),.i b] (.i r)):=⟨fun r h=>by
 refine aL br m63 rfl ?_;unfold Hi at h;simp only[ZC,A63,aO,aY];obtain⟨c,d,h⟩:=ah h;try refine ZF trivial ?_
 refine bW (o:=c) (co fM (aJ CL.w d ?_)) (fun j hv=>?_) (fun k hv e τ hne hq=>?_)
 ·exact ZK (ZA @wj.eq_1 @md.eq_1)
 ·subst hv;simp only[] at h;simp only[ZC,md,XR];cases h;exact ZL trivial @aO.eq_1
 ·subst hv;simp only[] at h;obtain⟨rfl,g⟩:=hq;cases h;exact g⟩
def w_gu(j:ae)(x:List az)(y:List af)(a:aM){r:Bool}(h:Vl j x y a=some r):Ok A1 9 [(au .o j),.lst .o 2 (x.map (aB .o)),.lst .o 10 (y.map (aj .o)),(aQ .o a)] (.b r):=by
 have e:=@vy.eq_1;refine aL br m9 rfl ?_;unfold Vl at h;simp only[ZC,A9,vy,aY];obtain⟨z3,z1,h⟩:=ah h;refine ZF trivial ?_;refine ZSG trivial (CW.w _ z1) ?_;obtain⟨c,h⟩|⟨c,h⟩:=aw h
 ·cases h;exact ZL c e
 ·obtain⟨a4,a2,h⟩:=ah h;refine ZF c ?_;refine ZSG c (CW.w _ a2) ?_;obtain⟨k,h⟩|⟨k,h⟩:=aw h
  ·cases h;exact ZL (ZA c k) e
  ·obtain⟨b4,b2,h⟩:=ah h;have f:=ZA c k;refine ZF f ?_;refine ZSG f (CW.w _ b2) ?_;obtain⟨l,h⟩|⟨l,h⟩:=aw h
   ·cases h;exact ZL (ZA f l) e
   ·obtain⟨c4,c2,h⟩:=ah h;have f:=ZA f l;refine ZF f ?_;refine ZUG f (CW.w _ c2) ?_;obtain⟨d4,d2,h⟩:=ah h;refine ZF f ?_;refine ZUG f (CW.w _ d2) ?_;obtain⟨g4,g2,h⟩:=ah h;refine ZF f ?_;refine ZUG f (CW.w _ g2) ?_;obtain⟨i4,i2,h⟩:=ah h;refine ZF f ?_;refine ZUG f (CW.w _ i2) ?_;obtain⟨d,j2,h⟩:=ah h;refine ZF f ?_;refine ZWG f (CW.w _ j2) [8,1000000002,1000000003] [5000008] ?_;obtain⟨a1,k2,h⟩:=ah h;refine ZF f ?_;refine ZUG f (CW.w _ k2) ?_;obtain⟨u1,l2,h⟩:=ah h;refine ZF f ?_;refine ZUG f (CW.w _ l2) ?_;obtain⟨v1,m2,h⟩:=ah h;refine ZF f ?_;refine ZUG f (CW.w _ m2) ?_;obtain⟨j4,p2,h⟩:=ah h;refine ZF f ?_;refine ZUG f (CW.w _ p2) ?_;obtain⟨g,q2,h⟩:=ah h;refine ZF f ?_;refine ZUG f (CW.w _ q2) ?_;obtain⟨s2,t2,h⟩:=ah h;try refine ZF f ?_
    refine aD (sh:=(fun v=>⟨[(1,.lst .o 2 (x.map (aB .o))),(2,.lst .o 10 (y.map (aj .o))),(4,.pt 4 0 0),(7,.pt 7 0 0),(10,.sl 10 0 d.2.2.1.length),(11,.i d.1),(12,.b d.2.1),(13,.pt 13 0 0),(14,.sl 14 0 u1.length),(15,.sl 15 0 v1.length),(16,.sl 16 0 g.1.length),(17,.i g.2.1),(18,.b g.2.2),(82,.b v)],[(4,.var (au .o j)),(7,.var (aQ .o a)),(10,.arr 10 (d.2.2.1.map (aj .u))),(13,.var (.agg [.sl 54 0 a1.N.length,.sl 1054 0 a1.F.length])),(14,.arr 2 (u1.map (aB .u))),(15,.arr 10 (v1.map (aj .u))),(16,.arr 10 (g.1.map (aj .u))),(54,.arr 1 (a1.N.map AV.z)),(1054,.arr 4 (a1.F.map (aF .u)))]⟩)) (s:=s2) ?_ ?_
    ·replace h:=t2;obtain⟨k4,u2,h⟩:=ah h;refine ZF f ?_;refine ZSG f (CW.w _ u2) ?_;obtain⟨b1,h⟩|⟨b1,h⟩:=aw h
     ·cases h;exact ZL (ZA f b1) trivial
     ·obtain⟨j1,h⟩|⟨j1,h⟩:=aw h
      ·cases h;exact ZL (ZA f (ZA b1 j1)) trivial
      ·cases h;exact ZL (ZA f (ZA b1 j1)) trivial
    ·simp only[ZC,A9R1];obtain⟨m,h⟩|⟨m,h⟩:=aw h
     ·cases h;exact ZL (ZA f m) e
     ·obtain⟨l4,v2,h⟩:=ah h;have f:=ZA f m;refine ZF f ?_;refine ZUG f (CW.w _ v2) ?_;obtain⟨m4,w2,h⟩:=ah h;refine ZF f ?_;refine ZSG f (CW.w _ w2) ?_;obtain⟨p,h⟩|⟨p,h⟩:=aw h
      ·cases h;exact ZL (ZA f p) e
      ·obtain⟨p4,x2,h⟩:=ah h;have f:=ZA f p;refine ZF f ?_;refine ZUG f (CW.w _ x2) ?_;obtain⟨q4,y2,h⟩:=ah h;refine ZF f ?_;refine ZSG f (CW.w _ y2) ?_;obtain⟨q,h⟩|⟨q,h⟩:=aw h
       ·cases h;exact ZL (ZA f q) e
       ·obtain⟨s4,z2,h⟩:=ah h;have f:=ZA f q;refine ZF f ?_;refine ZUG f (CW.w _ z2) ?_;obtain⟨t4,a3,h⟩:=ah h;refine ZF f ?_;refine ZSG f (CW.w _ a3) ?_;obtain⟨t,h⟩|⟨t,h⟩:=aw h
        ·cases h;exact ZL (ZA f t) e
        ·obtain⟨u4,b3,h⟩:=ah h;have f:=ZA f t;refine ZF f ?_;refine ZWG f (CW.w _ b3) [1000000000,1000000001] [] ?_;obtain⟨v4,c3,h⟩:=ah h;refine ZF f ?_;refine ZWG f (CW.w _ c3) [1000000000] [] ?_;obtain⟨w4,w1,h⟩:=ah h;refine ZF f ?_;refine⟨by simp[Ee,wM,dZ,cx,cZ,ww,EI,Fv,Fy,vN,cz,bU,ea,cv,pO,cY,cA,bS,px,pS,mA,dd,da,db,cW,cw,de,cu,df,cV,cX,Vo],kn (ok:=⟨_,_,_⟩) (by simp only[VS1,VS2,VS3,VS4,VS5,VS6,VT1,VT2,bC,bB,decide_true,decide_false,B0,A8,du,dr,dq,ne_eq,not_false_eq_true,B1,B2,true_and,false_and,A5,A6,↓reduceIte,reduceCtorEq,A2,A7,A3,B3,c,k,l,m,p,q,t];first|exact TU _ _ w1|(have hw:=TU _ _ w1;simp only[VS1,VS2,VS3,VS4,VS5,VS6,VT1,VT2,bC,bB,decide_true,decide_false,B0,A8,du,dr,dq,ne_eq,not_false_eq_true,B1,B2,true_and,false_and,A5,A6,↓reduceIte,reduceCtorEq,A2,A7,A3,B3,c,k,l,m,p,q,t] at hw;exact hw)) (by simp[VS1,VS2,VS3,VS4,VS5,VS6,VT1,VT2]) (by first|exact zC [1000000000] rfl (by decide+kernel)|exact vK [1000000000] [] rfl (by decide+kernel) (by simp[VS1,VS2,VS3,VS4,VS5,VS6,VT1,VT2])|simp[VS1,VS2,VS3,VS4,VS5,VS6,VT1,VT2]) ?_⟩;refine ZG ?_;obtain⟨d3,g3,h⟩:=ah h;try refine ZF f ?_
         refine aD (sh:=(fun v=>⟨[(1,.lst .o 2 (x.map (aB .o))),(2,.lst .o 10 (y.map (aj .o))),(4,.pt 4 0 0),(7,.pt 7 0 0),(10,.sl 10 0 d.2.2.1.length),(11,.i d.1),(12,.b d.2.1),(16,.sl 16 0 g.1.length),(124,.b v)],[(4,.var (au .o j)),(7,.var (aQ .o a)),(10,.arr 10 (d.2.2.1.map (aj .u))),(16,.arr 10 (g.1.map (aj .u)))]⟩)) (s:=d3) ?_ ?_
         ·replace h:=g3;obtain⟨k1,h⟩|⟨k1,h⟩:=aw h
          ·cases h;exact ZL (ZA f k1) trivial
          ·obtain⟨x4,i3,h⟩:=ah h;have f:=ZA f k1;refine ZF f ?_;refine ZSG f (CW.w _ i3) ?_;obtain⟨c1,h⟩|⟨c1,h⟩:=aw h
           ·cases h;exact ZL (ZA f c1) trivial
           ·obtain⟨l1,h⟩|⟨l1,h⟩:=aw h
            ·cases h;exact ZL (ZA f (ZA c1 l1)) trivial
            ·cases h;exact ZL (ZA f (ZA c1 l1)) trivial
         ·simp only[ZC,A9R2];obtain⟨w,h⟩|⟨w,h⟩:=aw h
          ·cases h;exact ZL (ZA f w) e
          ·obtain⟨m1,y1,h⟩:=ah h;have f:=ZA f w;refine ZF f ?_;refine⟨by simp[Ee,wM,dZ,cx,cZ,ww,EI,Fv,Fy,vN,cz,bU,ea,cv,pO,cY,cA,bS,px,pS,mA,dd,da,db,cW,cw,de,cu,df,cV,cX,Vo],kn (ok:=⟨_,_,_⟩) (by simp only[VS1,VS2,VS3,VS4,VS5,VS6,VT1,VT2,bC,bB,decide_true,decide_false,B0,A8,du,dr,dq,ne_eq,not_false_eq_true,B1,B2,true_and,false_and,A5,A6,↓reduceIte,reduceCtorEq,A2,A7,A3,B3,c,k,l,m,p,q,t,w];first|exact TU _ _ y1|(have hw:=TU _ _ y1;simp only[VS1,VS2,VS3,VS4,VS5,VS6,VT1,VT2,bC,bB,decide_true,decide_false,B0,A8,du,dr,dq,ne_eq,not_false_eq_true,B1,B2,true_and,false_and,A5,A6,↓reduceIte,reduceCtorEq,A2,A7,A3,B3,c,k,l,m,p,q,t,w] at hw;exact hw)) (by simp[VS1,VS2,VS3,VS4,VS5,VS6,VT1,VT2]) (by first|exact zC [1000000000] rfl (by decide+kernel)|exact vK [1000000000] [] rfl (by decide+kernel) (by simp[VS1,VS2,VS3,VS4,VS5,VS6,VT1,VT2])|simp[VS1,VS2,VS3,VS4,VS5,VS6,VT1,VT2]) ?_⟩;refine ZG ?_;obtain⟨j3,k3,h⟩:=bf h;have l3:sub (m1.2.map (aj .u)) 0 g.1.length=j3.map (aj .u):=by rw[dH,k3]
           obtain⟨y4,m3,h⟩:=ah h;have f:=ZA f l3;refine ZF f ?_;refine ZSG f (CW.w _ m3) ?_;obtain⟨d1,h⟩|⟨d1,h⟩:=aw h
           ·cases h;exact ZL (ZA f d1) e
           ·obtain⟨p1,h⟩|⟨p1,h⟩:=aw h
            ·cases h;exact ZL (ZA f (ZA d1 p1)) e
            ·obtain⟨z4,p3,h⟩:=ah h;have f:=ZA f (ZA d1 p1);refine ZF f ?_;refine ZUG f (CW.w _ p3) ?_;obtain⟨a5,q3,h⟩:=ah h;refine ZF f ?_;refine ZUG f (CW.w _ q3) ?_;obtain⟨b5,s3,h⟩:=ah h;refine ZF f ?_;refine ZUG f (CW.w _ s3) ?_;obtain⟨c5,t3,h⟩:=ah h;refine ZF f ?_;refine ZUG f (CW.w _ t3) ?_;obtain⟨d5,u3,h⟩:=ah h;refine ZF f ?_;refine ZUG f (CW.w _ u3) ?_;obtain⟨v3,w3,h⟩:=ah h;try refine ZF f ?_
             refine aD (sh:=(fun v=>⟨[(16,.sl 16 0 g.1.length),(20,.i m1.1),(162,.b v)],[(16,.arr 10 (m1.2.map (aj .u)))]⟩)) (s:=v3) ?_ ?_
             ·replace h:=w3;obtain⟨g5,x3,h⟩:=ah h;refine ZF f ?_;refine ZSG f (CW.w _ x3) ?_;obtain⟨g1,h⟩|⟨g1,h⟩:=aw h
              ·cases h;exact ZL (ZA f g1) trivial
              ·obtain⟨q1,h⟩|⟨q1,h⟩:=aw h
               ·cases h;exact ZL (ZA f (ZA g1 q1)) trivial
               ·cases h;exact ZL (ZA f (ZA g1 q1)) trivial
             ·simp only[ZC,A9R3];obtain⟨s1,h⟩|⟨s1,h⟩:=aw h
              ·cases h;exact ZL (ZA f s1) e
              ·obtain⟨i5,y3,h⟩:=ah h;have f:=ZA f s1;refine ZF f ?_;refine ZSG f (CW.w _ y3) ?_;obtain⟨i1,h⟩|⟨i1,h⟩:=aw h
               ·cases h;exact ZL (ZA f i1) e
               ·obtain⟨t1,h⟩|⟨t1,h⟩:=aw h
                ·cases h;exact ZL (ZA f (ZA i1 t1)) e
                ·cases h;exact ZL (ZA f (ZA i1 t1)) e
end Vs

