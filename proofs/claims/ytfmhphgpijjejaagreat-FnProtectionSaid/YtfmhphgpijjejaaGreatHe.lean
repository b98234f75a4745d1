/-
  Part of the proof that FnProtection returns true at every input.
-/
import Derived.Test.YtfmhphgpijjejaaGreatHb
set_option linter.defProp false
set_option linter.unusedSimpArgs false
set_option linter.unusedVariables false
open And renaming intro -> A0
open Go.Proofs.Tryz renaming prog -> A1
open Nat renaming reduceEqDiff -> A2, reduceLeDiff -> A3, reduceSub -> A6, reduceMul -> A7, reduceAdd -> A8, reduceLT -> C2
open List renaming map_append -> A5, nodup_cons -> A9, nodup_nil -> B0, length_replicate -> B6, map_set -> B7, length_append -> B8, length_cons -> B9, length_set -> C0, length_nil -> C1
open Go.IntKind renaming wrap -> B1
open Int renaming reduceEq -> B2, reduceNe -> B3, reduceLE -> B4, toNat -> B5
set_option maxHeartbeats 1000000
set_option maxRecDepth 8000
namespace Vs
open Go Go.Proofs
attribute [local irreducible] AWP fd eff wC gC callM
instance(j:af):CL (GP j) DR [3,41,42,43] [3] (Uv j) (qX 4 [3] [3] (KP)):=⟨fun a o h=>by
 unfold GP at h;simp only[ZC,Uv,DR];exact ZT ZJB (ZA @Uv.eq_1 (ZA @KP.eq_1 @DR.eq_1)) h⟩
instance(a:af):CW (Sn a) (fun(r:List (List Int))=>Ok A1 78 [(ar .o a)] (.lst .u 1 (r.map (hZ .u)))):=⟨fun r h=>ZO m78 (Sn.eq_1 _) ZJ (ZA @UN.eq_1 (ZA @Ol.eq_1 (ZA @Uv.eq_1 (ZA @KP.eq_1 (ZA @YN.eq_1 (ZA @Yv.eq_1 (ZA @V10.eq_1 @A78.eq_1))))))) h⟩
theorem w_dm(a:List Int)(p1Z0:Int){r:Bool}(h:Gw a p1Z0=some r):Ok A1 248 [.lst .o 1 (a.map AV.i),.bp .o (.i p1Z0) 0] (.b r):=ZO m248 (Gw.eq_1 _ _) trivial (ZA @tU.eq_1 @A248.eq_1) h
instance(a:List Int)(p1Z0:Int):CW (Gw a p1Z0) (fun(r:Bool)=>Ok A1 248 [.lst .o 1 (a.map AV.i),.bp .o (.i p1Z0) 0] (.b r)):=⟨fun r h=>w_dm a p1Z0 h⟩
def PC(a:List (List Int))(F_fZ0:Nat)(C_fZ0:List AV)(v:Int):St:=⟨[(0,.lst .o 1 (a.map (hZ .o))),(1,.fn F_fZ0 C_fZ0),(7,.i (a.length:Int)),(8,.i v)],[]⟩
def w_bu(c:List (List Int))(j:(List Int)->Option Bool)(F_fZ0:Nat)(C_fZ0:List AV)(hC_fZ0:ka C_fZ0)(hf_fZ0:∀(x0:List Int)(r:Bool),j x0=some r->Ok A1 F_fZ0 ((.lst .o 1 (x0.map AV.i))::C_fZ0) (.b r))(k:Int)(o:Int⊕(Unit⊕Int))(h:IC c j k=some o):AWP (OkS A1) CQ (qL [0,1,7,8] [] (PC c F_fZ0 C_fZ0) (qS (qX 0 [] [] (cK)) (qR aK (fun r=>.i r))) o) (PC c F_fZ0 C_fZ0 k):=by
 have e:=ZA @PC.eq_1 @cK.eq_1;unfold IC at h;simp only[ZC,PC,CQ];obtain⟨a,h⟩|⟨a,h⟩:=aw h
 ·obtain⟨m,d,h⟩:=ah h;obtain⟨p,l,h⟩:=ah h;have f:=ZA a (cg d);refine ZF f ?_;have f:=ZA f hC_fZ0.1;refine ZSG f (hf_fZ0 _ _ l) ?_;obtain⟨g,h⟩|⟨g,h⟩:=aw h
  ·cases h;exact ZL (ZA a (ZA (cg d) g)) (ZA @aK.eq_1 (ZA hC_fZ0.2 ((bK hC_fZ0))))
  ·cases h;exact ZL (ZA a (ZA (cg d) g)) (ZA e (ZA hC_fZ0.2 ((bK hC_fZ0))))
 ·cases h;exact ZL a (ZA e (ZA hC_fZ0.2 ((bK hC_fZ0))))
theorem w_et(a:List (List Int))(c:(List Int)->Option Bool){r:Int}(h:PA a c=some r)(F_fZ0:Nat)(C_fZ0:List AV)(hC_fZ0:ka C_fZ0)(hf_fZ0:∀(x0:List Int)(r:Bool),c x0=some r->Ok A1 F_fZ0 ((.lst .o 1 (x0.map AV.i))::C_fZ0) (.b r)):Ok A1 247 [.lst .o 1 (a.map (hZ .o)),.fn F_fZ0 C_fZ0] (.i r):=by
 refine bn bH m247 rfl ?_;unfold PA at h;simp only[ZC,A247,aK,ca];obtain⟨d,g,h⟩:=ah h;try refine ZF trivial ?_
 refine cm (o:=d) (cT lS (aN (w_bu a c F_fZ0 C_fZ0 hC_fZ0 hf_fZ0) g ?_)) (fun k hv=>?_) (fun l hv e τ hne hq=>?_)
 ·exact ZK (ZA @PC.eq_1 (ZA @cK.eq_1 (ZA hC_fZ0.2 ((bK hC_fZ0)))))
 ·subst hv;simp only[] at h;simp only[ZC,cK,Od];cases h;exact ZL trivial (ZA @aK.eq_1 (ZA hC_fZ0.2 ((bK hC_fZ0))))
 ·subst hv;simp only[] at h;obtain⟨rfl,j⟩:=hq;cases h;exact j
instance(a:af)(b:Int):CW (Sp a b) (fun(r:Int)=>Ok A1 230 [(ar .o a),.i b] (.i r)):=⟨fun r h=>by
 refine bn bH m230 rfl ?_;unfold Sp at h;simp only[ZC,A230,aK,ca];obtain⟨g,c,h⟩:=ah h;refine ZF trivial ?_;refine ZUG trivial (CW.w _ c) ?_;obtain⟨j,d,h⟩:=ah h;refine ZF trivial ?_;refine ZSG trivial (w_et _ _ d 248 [.bp .o (.i b) 0] ⟨fun ρ k=>by simp only[VS1,VS2,VS3,VS4,VS5,VS6,VT1,VT2,bB,bz,decide_true,decide_false,B0,A9,dS,dV,dN,ne_eq,not_false_eq_true,B2,B3,true_and,false_and,A6,A7,↓reduceIte,reduceCtorEq,A2,A8,A3,B4],by simp[aP,AV.ments]⟩ (fun _ _ h=>w_dm _ _ h)) ?_;cases h;exact ZL trivial @aK.eq_1⟩
def VH(a:af)(b:List Int)(v:Int×List Int):St:=⟨[(2,.pt 2 0 0),(5,.sl 5 0 v.2.length),(9,.lst .o 1 (b.map AV.i)),(10,.i (b.length:Int)),(11,.i v.1)],[(2,.var (ar .o a)),(5,.arr 1 (v.2.map AV.i))]⟩
instance(c:af)(d:List Int):CL (Jo c d) wh [2,5,9,10,11] [2,5] (VH c d) (qX 0 [5] [5] (tK)):=⟨fun a o h=>by
 unfold Jo at h;simp only[ZC,VH,wh];exact ZT ZJB (ZA @VH.eq_1 (ZA @tK.eq_1 @wh.eq_1)) h⟩
instance(a:af)(b:List Int):CW (GX a b) (fun(r:List Int)=>Ok A1 202 [(ar .o a),.lst .o 1 (b.map AV.i)] (.lst .u 1 (r.map AV.i))):=⟨fun r h=>ZO m202 (GX.eq_1 _ _) ZJ (ZA @VH.eq_1 (ZA @tK.eq_1 (ZA @PB.eq_1 (ZA @aK.eq_1 @A202.eq_1)))) h⟩
def Vg(a:Nat)(b:Nat)(c:Int)(v:Int×Int×List Int):St:=⟨[(0,.sl 1000000000 a b),(3,.i v.1),(4,.sl 1000000000 (a+(B5 c)) (b-(B5 c))),(5,.i v.2.1)],[(1000000000,.arr 1 (v.2.2.map AV.i))]⟩
def FU(a:Nat)(b:Nat)(v:Int×List Int):St:=⟨[(0,.sl 1000000000 a b),(3,.i v.1)],[(1000000000,.arr 1 (v.2.map AV.i))]⟩
instance(a:Nat)(b:Nat)(g:Int):CL (Bi a b g) nQ [0,3,4,5] [1000000000] (Vg a b g) (qX 2 [0,3] [1000000000] (FU a b)):=⟨fun c o h=>by
 unfold Bi at h;simp only[ZC,Vg,nQ];exact ZT ZJB (ZA @Vg.eq_1 (ZA @FU.eq_1 @nQ.eq_1)) h⟩
def Tb(a:Nat)(b:Nat)(c:List Int)(v:Int):St:=⟨[(0,.sl 1000000000 a b),(3,.i v)],[(1000000000,.arr 1 (c.map AV.i))]⟩
def Ea(a:Nat)(b:Nat)(c:List Int)(v:Unit):St:=⟨[(0,.sl 1000000000 a b)],[(1000000000,.arr 1 (c.map AV.i))]⟩
instance(a:Nat)(b:Nat)(c:List Int):CL (Ja a b c) rT [0,3] [1000000000] (Tb a b c) (qS (qX 0 [0] [1000000000] (Ea a b c)) (qM V10 [1000000000] (fun(r:Nat×Nat×List Int)=>.sl 1000000000 r.1 r.2.1) (fun(r:Nat×Nat×List Int)=>[(1000000000,.arr 1 (r.2.2.map AV.i))]))):=⟨fun j o h=>by
 have e:=ZA @Tb.eq_1 @Ea.eq_1;unfold Ja at h;simp only[ZC,Tb,rT];obtain⟨d,h⟩|⟨d,h⟩:=aw h
 ·obtain⟨a1,l,h⟩:=ah h;obtain⟨b1,m,h⟩:=ah h;obtain⟨c1,p,h⟩:=ah h;obtain⟨d1,q,h⟩:=ah h;obtain⟨k,h⟩|⟨k,h⟩:=aw h
  ·obtain⟨g1,v,h⟩:=ah h;obtain⟨g,w,h⟩:=ah h;have f:=ZA d (ZA (aY l) (ZA m (ZA (aY p) (ZA q (ZA k (aY v))))));try refine ZF f ?_
   refine aF (bf (aN CL.w w ?_)) ?_
   ·exact ZK (ZA @Vg.eq_1 @FU.eq_1)
   ·simp only[ZC,FU,yD];obtain⟨i1,x,h⟩:=ah h;obtain⟨s,t,h⟩:=bb h;have u:dg (g.2.map AV.i) (a+(B5 g.1)) (List.replicate (b-(B5 g.1)) (.i 0:AV))=s.map AV.i:=by rw[<-t,<-rp]<;>simp[List.map_take]
    try simp only[Int.toNat_natCast] at u
    have y:s.length=g.2.length:=by rw[<-t];exact gg _ _ _
    obtain⟨j1,z,h⟩:=ah h;cases h;exact ZL (ZA f (ZA (aY x) (ZA u (aY z)))) (ZA @V10.eq_1 y)
  ·cases h;exact ZL (ZA d (ZA (aY l) (ZA m (ZA (aY p) (ZA q k))))) e
 ·cases h;exact ZL d e⟩
instance(b:Nat)(c:Nat)(d:List Int):CW (LW b c d) (fun(r:Nat×Nat×List Int)=>OkM A1 204 [.sl 1000000000 b c] [(1000000000,.arr 1 (d.map AV.i))] (.sl 1000000000 r.1 r.2.1) ([(1000000000,.arr 1 (r.2.2.map AV.i))])):=⟨fun r h=>by
 refine aU (lr:=[1000000000]) bH abs rfl rfl ?_;unfold LW at h;simp only[ZC,Qp,V10];obtain⟨a,h⟩|⟨a,h⟩:=aw h
 ·cases h;exact ZL a @V10.eq_1
 ·obtain⟨g,j,h⟩:=ah h;try refine ZF a ?_
  refine cm (o:=g) (cT sf (aN CL.w j ?_)) (fun l hv=>?_) (fun m hv e τ hne hq=>?_)
  ·exact ZK (ZA @Tb.eq_1 @Ea.eq_1)
  ·subst hv;simp only[] at h;simp only[ZC,Ea,AO];cases h;exact ZL a @V10.eq_1
  ·subst hv;simp only[] at h;obtain⟨rfl,k⟩:=hq;cases h;exact k⟩
def US(a:List Int)(b:List Int)(v:Int×List Int):St:=⟨[(1,.lst .o 1 (b.map AV.i)),(5,.sl 5 0 v.2.length),(9,.lst .o 1 (a.map AV.i)),(10,.i (a.length:Int)),(11,.i v.1)],[(5,.arr 1 (v.2.map AV.i))]⟩
instance(c:List Int)(d:List Int):CL (Bb c d) wv [1,5,9,10,11] [5] (US c d) (qX 0 [5] [5] (tK)):=⟨fun a o h=>by
 unfold Bb at h;simp only[ZC,US,wv];exact ZT ZJB (ZA @US.eq_1 (ZA @tK.eq_1 @wv.eq_1)) h⟩
instance(a:List Int)(b:List Int):CW (Km a b) (fun(r:List Int)=>Ok A1 140 [.lst .o 1 (a.map AV.i),.lst .o 1 (b.map AV.i)] (.lst .u 1 (r.map AV.i))):=⟨fun r h=>by
 refine bn bH m140 rfl ?_;unfold Km at h;simp only[ZC,A140,aK,ca];obtain⟨d,j,h⟩:=ah h;try refine ZF trivial ?_
 refine aF (bf (aN CL.w j ?_)) ?_
 ·exact ZK (ZA @US.eq_1 @tK.eq_1)
 ·simp only[ZC,tK,Np];obtain⟨k,g,h⟩:=ah h;have l:k.length=d.length:=Iu g;refine ZF trivial ?_;refine nW (by simp only[VS1,VS2,VS3,VS4,VS5,VS6,VT1,VT2,bB,bz,decide_true,decide_false,B0,A9,dS,dV,dN,ne_eq,not_false_eq_true,B2,B3,true_and,false_and,A6,A7,↓reduceIte,reduceCtorEq,A2,A8,A3,B4];exact(HN Lr (xs:=d) (by simp[C1]) g)) (by simp[VS1,VS2,VS3,VS4,VS5,VS6,VT1,VT2]) (by first|exact KM [1000000000] rfl (by decide+kernel)|simp[VS1,VS2,VS3,VS4,VS5,VS6,VT1,VT2]) ?_;refine ZG ?_;obtain⟨c,m,h⟩:=ah h;refine ZF trivial ?_;refine ZWG trivial (CW.w _ m) [1000000000] [] ?_;obtain⟨p,q,h⟩:=bb h;have s:sub (c.2.2.map AV.i) c.1 c.2.1=p.map AV.i:=by rw[bN,q]
  cases h;exact ZL s (ZA @aK.eq_1 l)⟩
instance(a:af)(c:List Int)(d:List Int):CW (Dg a c d) (fun(r:Bool)=>Ok A1 136 [(ar .o a),.lst .o 1 (c.map AV.i),.lst .o 1 (d.map AV.i)] (.b r)):=⟨fun r h=>ZO m136 (Dg.eq_1 _ _ _) trivial (ZA @dt.eq_1 @A136.eq_1) h⟩
instance(d:af)(a:ae):CW (Ll d a) (fun(r:Bool)=>Ok A1 94 [(ar .o d),(ai .o a)] (.b r)):=⟨fun r h=>by
 have e:=@aK.eq_1;refine bn bH m94 rfl ?_;unfold Ll at h;simp only[ZC,A94,aK,ca];obtain⟨c1,k1,h⟩:=ah h;refine ZF trivial ?_;refine ZUG trivial (CW.w _ k1) ?_;obtain⟨l1,m1,h⟩:=ah h;try refine ZF trivial ?_
 refine aF (sh:=(fun v=>⟨[(2,.pt 2 0 0),(3,.pt 3 0 0),(5,.sl 5 0 c1.1.length),(35,.b v)],[(2,.var (ar .o d)),(3,.var (ai .o a)),(5,.arr 1 (c1.1.map AV.i))]⟩)) (s:=l1) ?_ ?_
 ·replace h:=m1;obtain⟨z1,p1,h⟩:=ah h;refine ZF trivial ?_;refine ZSG trivial (CW.w _ p1) ?_;obtain⟨c,h⟩|⟨c,h⟩:=aw h
  ·cases h;exact ZL c trivial
  ·obtain⟨a2,q1,h⟩:=ah h;refine ZF c ?_;refine ZSG c (CW.w _ q1) ?_;obtain⟨j,h⟩|⟨j,h⟩:=aw h
   ·cases h;exact ZL (ZA c j) trivial
   ·obtain⟨p,h⟩|⟨p,h⟩:=aw h
    ·cases h;exact ZL (ZA c (ZA j p)) trivial
    ·obtain⟨b2,s1,h⟩:=ah h;have f:=ZA c (ZA j p);refine ZF f ?_;refine ZSG f (CW.w _ s1) ?_;cases h;exact ZL f trivial
 ·simp only[ZC,YJ];obtain⟨k,h⟩|⟨k,h⟩:=aw h
  ·cases h;exact ZL k e
  ·obtain⟨q,h⟩|⟨q,h⟩:=aw h
   ·obtain⟨t1,u1,h⟩:=ah h;have f:=ZA k q;try refine ZF f ?_
    refine aF (sh:=(fun v=>⟨[(4,.b v)],[]⟩)) (s:=t1) ?_ ?_
    ·replace h:=u1;obtain⟨l,h⟩|⟨l,h⟩:=aw h
     ·obtain⟨t,h⟩|⟨t,h⟩:=aw h
      ·cases h;exact ZL (ZA f (ZA l t)) trivial
      ·cases h;exact ZL (ZA f (ZA l t)) trivial
     ·cases h;exact ZL (ZA f l) trivial
    ·simp only[ZC,YX];cases h;exact ZL f e
   ·obtain⟨c2,v1,h⟩:=ah h;have f:=ZA k q;refine ZF f ?_;refine ZUG f (CW.w _ v1) ?_;obtain⟨u,h⟩|⟨u,h⟩:=aw h
    ·obtain⟨d2,w1,h⟩:=ah h;have f:=ZA f u;refine ZF f ?_;refine ZSG f (CW.w _ w1) ?_;obtain⟨g,h⟩|⟨g,h⟩:=aw h
     ·obtain⟨g2,w,h⟩:=ah h;obtain⟨i2,x,h⟩:=ah h;obtain⟨j2,y,h⟩:=ah h;obtain⟨k2,a1,h⟩:=ah h;obtain⟨m,h⟩|⟨m,h⟩:=aw h
      ·obtain⟨l2,d1,h⟩:=ah h;obtain⟨m2,g1,h⟩:=ah h;obtain⟨p2,i1,h⟩:=ah h;obtain⟨q2,j1,h⟩:=ah h;obtain⟨b1,h⟩|⟨b1,h⟩:=aw h
       ·obtain⟨s2,y1,h⟩:=ah h;have f:=ZA f (ZA g (ZA (aY w) (ZA x (ZA (aY y) (ZA a1 (ZA m (ZA (aY d1) (ZA g1 (ZA (aY i1) (ZA j1 b1))))))))));refine ZF f ?_;refine ZSG f (CW.w _ y1) ?_;cases h;exact ZL f e
       ·cases h;exact ZL (ZA f (ZA g (ZA (aY w) (ZA x (ZA (aY y) (ZA a1 (ZA m (ZA (aY d1) (ZA g1 (ZA (aY i1) (ZA j1 b1))))))))))) e
      ·cases h;exact ZL (ZA f (ZA g (ZA (aY w) (ZA x (ZA (aY y) (ZA a1 m)))))) e
     ·cases h;exact ZL (ZA f g) e
    ·cases h;exact ZL (ZA f u) e⟩
instance(a:aD):CW (yr a) (fun(r:Int)=>Ok A1 69 [(bD .o a)] (.i r)):=⟨fun r h=>ZO m69 (yr.eq_1 _) trivial (ZA @V10.eq_1 @A69.eq_1) h⟩
instance(a:gu)(c:gu):CW (VF a c) (fun(r:Bool)=>Ok A1 205 [(cW .o a),(cW .o c)] (.b r)):=⟨fun r h=>ZO m205 (VF.eq_1 _ _) trivial (ZA @aK.eq_1 @A205.eq_1) h⟩
instance(a:aj)(c:aD)(d:aj)(g:aD):CW (xB a c d g) (fun(r:Bool)=>Ok A1 142 [(ax .o a),(bD .o c),(ax .o d),(bD .o g)] (.b r)):=⟨fun r h=>ZO m142 (xB.eq_1 _ _ _ _) trivial (ZA @WV.eq_1 @A142.eq_1) h⟩
instance(j:af)(a:ae)(c:ae):CW (JQ j a c) (fun(r:Bool)=>Ok A1 97 [(ar .o j),(ai .o a),(ai .o c)] (.b r)):=⟨fun r h=>by
 refine bn bH m97 rfl ?_;unfold JQ at h;simp only[ZC,A97,dt,ca];obtain⟨q,t,h⟩:=ah h;try refine ZF trivial ?_
 refine aF (sh:=(fun v=>⟨[(3,.pt 3 0 0),(4,.pt 4 0 0),(5,.pt 5 0 0),(38,.b v)],[(3,.var (ar .o j)),(4,.var (ai .o a)),(5,.var (ai .o c))]⟩)) (s:=q) ?_ ?_
 ·replace h:=t;obtain⟨d1,u,h⟩:=ah h;refine ZF trivial ?_;refine ZSG trivial (CW.w _ u) ?_;obtain⟨g,h⟩|⟨g,h⟩:=aw h
  ·cases h;exact ZL g trivial
  ·obtain⟨g1,w,h⟩:=ah h;refine ZF g ?_;refine ZSG g (CW.w _ w) ?_;obtain⟨l,h⟩|⟨l,h⟩:=aw h
   ·cases h;exact ZL (ZA g l) trivial
   ·obtain⟨i1,x,h⟩:=ah h;have f:=ZA g l;refine ZF f ?_;refine ZSG f (CW.w _ x) ?_;cases h;exact ZL f trivial
 ·simp only[ZC,Zj];obtain⟨d,h⟩|⟨d,h⟩:=aw h
  ·cases h;exact ZL d @dt.eq_1
  ·obtain⟨y,a1,h⟩:=ah h;try refine ZF d ?_
   refine aF (sh:=(fun v=>⟨[(4,.pt 4 0 0),(5,.pt 5 0 0),(7,.b v)],[(4,.var (ai .o a)),(5,.var (ai .o c))]⟩)) (s:=y) ?_ ?_
   ·replace h:=a1;obtain⟨k,h⟩|⟨k,h⟩:=aw h
    ·obtain⟨m,h⟩|⟨m,h⟩:=aw h
     ·obtain⟨j1,b1,h⟩:=ah h;have f:=ZA d (ZA k m);refine ZF f ?_;refine ZSG f (CW.w _ b1) ?_;cases h;exact ZL f trivial
     ·cases h;exact ZL (ZA d (ZA k m)) trivial
    ·cases h;exact ZL (ZA d k) trivial
   ·simp only[ZC,Yx];obtain⟨p,h⟩|⟨p,h⟩:=aw h
    ·cases h;exact ZL (ZA d p) @dt.eq_1
    ·obtain⟨k1,c1,h⟩:=ah h;have f:=ZA d p;refine ZF f ?_;refine ZSG f (CW.w _ c1) ?_;cases h;exact ZL f @dt.eq_1⟩
theorem ado(a:ae)(p1Z0:af)(p2Z0:ae){r:Bool}(h:Cf a p1Z0 p2Z0=some r):Ok A1 96 [(ai .o a),.bp .o (ar .o p1Z0) 0,.bp .o (ai .o p2Z0) 0] (.b r):=ZO m96 (Cf.eq_1 _ _ _) trivial (ZA @aK.eq_1 @A96.eq_1) h
instance(a:ae)(p1Z0:af)(p2Z0:ae):CW (Cf a p1Z0 p2Z0) (fun(r:Bool)=>Ok A1 96 [(ai .o a),.bp .o (ar .o p1Z0) 0,.bp .o (ai .o p2Z0) 0] (.b r)):=⟨fun r h=>ado a p1Z0 p2Z0 h⟩
def MH(a:List ae)(F_fZ0:Nat)(C_fZ0:List AV)(v:Int):St:=⟨[(0,.lst .o 10 (a.map (ai .o))),(1,.fn F_fZ0 C_fZ0),(7,.i (a.length:Int)),(8,.i v)],[]⟩
def w_af(c:List ae)(j:ae->Option Bool)(F_fZ0:Nat)(C_fZ0:List AV)(hC_fZ0:ka C_fZ0)(hf_fZ0:∀(x0:ae)(r:Bool),j x0=some r->Ok A1 F_fZ0 ((.agg [.i x0.Id,.i x0.W,.i x0.N.N,.lst .o 1 (x0.N.F.map AV.i),.i x0.P.N,.i x0.P.F,.i x0.F.N,.lst .o 1 (x0.F.F.map AV.i),.i x0.L.N,.i x0.L.F])::C_fZ0) (.b r))(k:Int)(o:Int⊕(Unit⊕Int))(h:wS c j k=some o):AWP (OkS A1) QC (qL [0,1,7,8] [] (MH c F_fZ0 C_fZ0) (qS (qX 0 [] [] (cK)) (qR aK (fun r=>.i r))) o) (MH c F_fZ0 C_fZ0 k):=by
 have e:=ZA @MH.eq_1 @cK.eq_1;unfold wS at h;simp only[ZC,MH,QC];obtain⟨a,h⟩|⟨a,h⟩:=aw h
 ·obtain⟨m,d,h⟩:=ah h;obtain⟨p,l,h⟩:=ah h;have f:=ZA a (cg d);refine ZF f ?_;have f:=ZA f hC_fZ0.1;refine ZSG f (hf_fZ0 _ _ l) ?_;obtain⟨g,h⟩|⟨g,h⟩:=aw h
  ·cases h;exact ZL (ZA a (ZA (cg d) g)) (ZA @aK.eq_1 (ZA hC_fZ0.2 ((bK hC_fZ0))))
  ·cases h;exact ZL (ZA a (ZA (cg d) g)) (ZA e (ZA hC_fZ0.2 ((bK hC_fZ0))))
 ·cases h;exact ZL a (ZA e (ZA hC_fZ0.2 ((bK hC_fZ0))))
def w_db(a:List ae)(c:ae->Option Bool){r:Int}(h:Bo a c=some r)(F_fZ0:Nat)(C_fZ0:List AV)(hC_fZ0:ka C_fZ0)(hf_fZ0:∀(x0:ae)(r:Bool),c x0=some r->Ok A1 F_fZ0 ((.agg [.i x0.Id,.i x0.W,.i x0.N.N,.lst .o 1 (x0.N.F.map AV.i),.i x0.P.N,.i x0.P.F,.i x0.F.N,.lst .o 1 (x0.F.F.map AV.i),.i x0.L.N,.i x0.L.F])::C_fZ0) (.b r)):Ok A1 98 [.lst .o 10 (a.map (ai .o)),.fn F_fZ0 C_fZ0] (.i r):=by
 refine bn bH m98 rfl ?_;unfold Bo at h;simp only[ZC,A98,aK,ca];obtain⟨d,g,h⟩:=ah h;try refine ZF trivial ?_
 refine cm (o:=d) (cT lS (aN (w_af a c F_fZ0 C_fZ0 hC_fZ0 hf_fZ0) g ?_)) (fun k hv=>?_) (fun l hv e τ hne hq=>?_)
 ·exact ZK (ZA @MH.eq_1 (ZA @cK.eq_1 (ZA hC_fZ0.2 ((bK hC_fZ0)))))
 ·subst hv;simp only[] at h;simp only[ZC,cK,YC];cases h;exact ZL trivial (ZA @aK.eq_1 (ZA hC_fZ0.2 ((bK hC_fZ0))))
 ·subst hv;simp only[] at h;obtain⟨rfl,j⟩:=hq;cases h;exact j
def VV(a:List ae)(c:ae->Option Bool){r:Bool}(h:tn a c=some r)(F_fZ0:Nat)(C_fZ0:List AV)(hC_fZ0:ka C_fZ0)(hf_fZ0:∀(x0:ae)(r:Bool),c x0=some r->Ok A1 F_fZ0 ((.agg [.i x0.Id,.i x0.W,.i x0.N.N,.lst .o 1 (x0.N.F.map AV.i),.i x0.P.N,.i x0.P.F,.i x0.F.N,.lst .o 1 (x0.F.F.map AV.i),.i x0.L.N,.i x0.L.F])::C_fZ0) (.b r)):Ok A1 95 [.lst .o 10 (a.map (ai .o)),.fn F_fZ0 C_fZ0] (.b r):=by
 refine bn bH m95 rfl ?_;unfold tn at h;simp only[ZC,A95,aK,ca];obtain⟨g,d,h⟩:=ah h;refine ZF trivial ?_;refine ZSG hC_fZ0.1 (w_db _ _ d F_fZ0 C_fZ0 hC_fZ0 hf_fZ0) ?_;cases h;exact ZL trivial (ZA @aK.eq_1 (ZA hC_fZ0.2 ((bK hC_fZ0))))
def IQ(b:af)(a:List ae)(v:Int):St:=⟨[(1,.lst .o 10 (a.map (ai .o))),(2,.pt 2 0 0),(15,.lst .o 10 (a.map (ai .o))),(16,.i (a.length:Int)),(17,.i v)],[(2,.var (ar .o b))]⟩
instance(c:af)(j:List ae):CL (GR c j) OA [1,2,15,16,17] [2] (IQ c j) (qS (qX 0 [] [] (cK)) (qR aK (fun r=>.b r))):=⟨fun s o h=>by
 unfold GR at h;simp only[ZC,IQ,OA];obtain⟨l,h⟩|⟨l,h⟩:=aw h
 ·obtain⟨a,u,h⟩:=ah h;obtain⟨q1,v,h⟩:=ah h;have f:=ZA l (cg u);refine ZF f ?_;refine ZSG f (CW.w _ v) ?_;obtain⟨d,h⟩|⟨d,h⟩:=aw h
  ·cases h;exact ZL (ZA f d) @aK.eq_1
  ·obtain⟨g,h⟩|⟨g,h⟩:=aw h
   ·obtain⟨s1,t,h⟩:=ah h;obtain⟨m,h⟩|⟨m,h⟩:=aw h
    ·cases h;exact ZL (ZA f (ZA d (ZA g (ZA (cg t) m)))) @aK.eq_1
    ·obtain⟨t1,w,h⟩:=ah h;obtain⟨x,y,a1,b1,c1⟩:=zN (ai .o) w;obtain⟨u1,d1,h⟩:=ah h;have f:=ZA f (ZA d (ZA g (ZA (cg t) (ZA m (ZA x (ZA y (ZA a1 (ZA b1 c1))))))));refine ZF f ?_;refine ZSG f (VV _ _ d1 96 [.bp .o (.agg [.lst .o 1 (c.N.map AV.z),.lst .o 4 (c.F.map (aC .o))]) 0,.bp .o (.agg [.i a.Id,.i a.W,.i a.N.N,.lst .o 1 (a.N.F.map AV.i),.i a.P.N,.i a.P.F,.i a.F.N,.lst .o 1 (a.F.F.map AV.i),.i a.L.N,.i a.L.F]) 0] ⟨fun ρ k=>by simp only[VS1,VS2,VS3,VS4,VS5,VS6,VT1,VT2,bB,bz,decide_true,decide_false,B0,A9,dS,dV,dN,ne_eq,not_false_eq_true,B2,B3,true_and,false_and,A6,A7,↓reduceIte,reduceCtorEq,A2,A8,A3,B4],by simp[aP,AV.ments]⟩ (fun _ _ h=>ado _ _ _ h)) ?_;obtain⟨p,h⟩|⟨p,h⟩:=aw h
     ·cases h;exact ZL (ZA f p) @aK.eq_1
     ·cases h;exact ZL (ZA f p) (ZA @IQ.eq_1 @cK.eq_1)
   ·obtain⟨v1,g1,h⟩:=ah h;obtain⟨i1,j1,k1,l1,m1⟩:=zN (ai .o) g1;obtain⟨w1,p1,h⟩:=ah h;have f:=ZA f (ZA d (ZA g (ZA i1 (ZA j1 (ZA k1 (ZA l1 m1))))));refine ZF f ?_;refine ZSG f (VV _ _ p1 96 [.bp .o (.agg [.lst .o 1 (c.N.map AV.z),.lst .o 4 (c.F.map (aC .o))]) 0,.bp .o (.agg [.i a.Id,.i a.W,.i a.N.N,.lst .o 1 (a.N.F.map AV.i),.i a.P.N,.i a.P.F,.i a.F.N,.lst .o 1 (a.F.F.map AV.i),.i a.L.N,.i a.L.F]) 0] ⟨fun ρ k=>by simp only[VS1,VS2,VS3,VS4,VS5,VS6,VT1,VT2,bB,bz,decide_true,decide_false,B0,A9,dS,dV,dN,ne_eq,not_false_eq_true,B2,B3,true_and,false_and,A6,A7,↓reduceIte,reduceCtorEq,A2,A8,A3,B4],by simp[aP,AV.ments]⟩ (fun _ _ h=>ado _ _ _ h)) ?_;obtain⟨q,h⟩|⟨q,h⟩:=aw h
    ·cases h;exact ZL (ZA f q) @aK.eq_1
    ·cases h;exact ZL (ZA f q) (ZA @IQ.eq_1 @cK.eq_1)
 ·cases h;exact ZL l (ZA @IQ.eq_1 @cK.eq_1)⟩
instance(a:af)(c:List ae):CW (wR a c) (fun(r:Bool)=>Ok A1 24 [(ar .o a),.lst .o 10 (c.map (ai .o))] (.b r)):=⟨fun r h=>ZO m24 (wR.eq_1 _ _) ZJ (ZA @IQ.eq_1 (ZA @cK.eq_1 (ZA @YB.eq_1 (ZA @YO.eq_1 (ZA @aK.eq_1 @A24.eq_1))))) h⟩
theorem w_dv(a:ae)(p1Z0:ae){r:Bool}(h:QF a p1Z0=some r):Ok A1 155 [(ai .o a),.bp .o (ai .o p1Z0) 0] (.b r):=ZO m155 (QF.eq_1 _ _) trivial (ZA @tU.eq_1 @A155.eq_1) h
instance(a:ae)(p1Z0:ae):CW (QF a p1Z0) (fun(r:Bool)=>Ok A1 155 [(ai .o a),.bp .o (ai .o p1Z0) 0] (.b r)):=⟨fun r h=>w_dv a p1Z0 h⟩
def Ts(a:List aA)(v:Int):St:=⟨[(0,.lst .o 2 (a.map (aJ .o))),(5,.lst .o 2 (a.map (aJ .o))),(6,.i (a.length:Int)),(7,.i v)],[]⟩
instance(d:List aA):CL (Gy d) wH [0,5,6,7] [] (Ts d) (qS (qX 0 [0] [] (uw d)) (qR V10 (fun r=>.b r))):=⟨fun m o h=>by
 unfold Gy at h;simp only[ZC,Ts,wH];exact ZT trivial (ZA @V10.eq_1 (ZA @Ts.eq_1 (ZA @uw.eq_1 @wH.eq_1))) h⟩
instance(a:List aA):CW (Gs a) (fun(r:Bool)=>Ok A1 219 [.lst .o 2 (a.map (aJ .o))] (.b r)):=⟨fun r h=>ZO m219 (Gs.eq_1 _) ZJ (ZA @Ts.eq_1 (ZA @uw.eq_1 (ZA @KQ.eq_1 (ZA @V10.eq_1 @A219.eq_1)))) h⟩
instance(g:af)(c:aO):CW (LX g c) (fun(r:Bool)=>Ok A1 243 [(ar .o g),(aR .o c)] (.b r)):=⟨fun r h=>ZO m243 (LX.eq_1 _ _) trivial (ZA @abk.eq_1 (ZA @aK.eq_1 @abk.eq_1)) h⟩
theorem w_ds(a:aO)(p1Z0:af){r:Bool}(h:Nx a p1Z0=some r):Ok A1 242 [(aR .o a),.bp .o (ar .o p1Z0) 0] (.b r):=ZO m242 (Nx.eq_1 _ _) trivial (ZA @tU.eq_1 @A242.eq_1) h
instance(a:aO)(p1Z0:af):CW (Nx a p1Z0) (fun(r:Bool)=>Ok A1 242 [(aR .o a),.bp .o (ar .o p1Z0) 0] (.b r)):=⟨fun r h=>w_ds a p1Z0 h⟩
def Sw(a:List aO)(F_fZ0:Nat)(C_fZ0:List AV)(v:Int):St:=⟨[(0,.lst .o 4 (a.map (aR .o))),(1,.fn F_fZ0 C_fZ0),(7,.i (a.length:Int)),(8,.i v)],[]⟩
def w_bo(c:List aO)(j:aO->Option Bool)(F_fZ0:Nat)(C_fZ0:List AV)(hC_fZ0:ka C_fZ0)(hf_fZ0:∀(x0:aO)(r:Bool),j x0=some r->Ok A1 F_fZ0 ((.agg [.i x0.N,.i x0.L,.i x0.F,.i x0.W])::C_fZ0) (.b r))(k:Int)(o:Int⊕(Unit⊕Int))(h:JA c j k=some o):AWP (OkS A1) BP (qL [0,1,7,8] [] (Sw c F_fZ0 C_fZ0) (qS (qX 0 [] [] (cK)) (qR aK (fun r=>.i r))) o) (Sw c F_fZ0 C_fZ0 k):=by
 have e:=ZA @Sw.eq_1 @cK.eq_1;unfold JA at h;simp only[ZC,Sw,BP];obtain⟨a,h⟩|⟨a,h⟩:=aw h
 ·obtain⟨m,d,h⟩:=ah h;obtain⟨p,l,h⟩:=ah h;have f:=ZA a (cg d);refine ZF f ?_;have f:=ZA f hC_fZ0.1;refine ZSG f (hf_fZ0 _ _ l) ?_;obtain⟨g,h⟩|⟨g,h⟩:=aw h
  ·cases h;exact ZL (ZA a (ZA (cg d) g)) (ZA @aK.eq_1 (ZA hC_fZ0.2 ((bK hC_fZ0))))
  ·cases h;exact ZL (ZA a (ZA (cg d) g)) (ZA e (ZA hC_fZ0.2 ((bK hC_fZ0))))
 ·cases h;exact ZL a (ZA e (ZA hC_fZ0.2 ((bK hC_fZ0))))
def w_ey(a:List aO)(c:aO->Option Bool){r:Int}(h:Tv a c=some r)(F_fZ0:Nat)(C_fZ0:List AV)(hC_fZ0:ka C_fZ0)(hf_fZ0:∀(x0:aO)(r:Bool),c x0=some r->Ok A1 F_fZ0 ((.agg [.i x0.N,.i x0.L,.i x0.F,.i x0.W])::C_fZ0) (.b r)):Ok A1 262 [.lst .o 4 (a.map (aR .o)),.fn F_fZ0 C_fZ0] (.i r):=by
 refine bn bH m262 rfl ?_;unfold Tv at h;simp only[ZC,A262,aK,ca];obtain⟨d,g,h⟩:=ah h;try refine ZF trivial ?_
 refine cm (o:=d) (cT lS (aN (w_bo a c F_fZ0 C_fZ0 hC_fZ0 hf_fZ0) g ?_)) (fun k hv=>?_) (fun l hv e τ hne hq=>?_)
 ·exact ZK (ZA @Sw.eq_1 (ZA @cK.eq_1 (ZA hC_fZ0.2 ((bK hC_fZ0)))))
 ·subst hv;simp only[] at h;simp only[ZC,cK,RA];cases h;exact ZL trivial (ZA @aK.eq_1 (ZA hC_fZ0.2 ((bK hC_fZ0))))
 ·subst hv;simp only[] at h;obtain⟨rfl,j⟩:=hq;cases h;exact j
theorem w_el(a:List aO)(c:aO->Option Bool){r:Bool}(h:Pa a c=some r)(F_fZ0:Nat)(C_fZ0:List AV)(hC_fZ0:ka C_fZ0)(hf_fZ0:∀(x0:aO)(r:Bool),c x0=some r->Ok A1 F_fZ0 ((.agg [.i x0.N,.i x0.L,.i x0.F,.i x0.W])::C_fZ0) (.b r)):Ok A1 241 [.lst .o 4 (a.map (aR .o)),.fn F_fZ0 C_fZ0] (.b r):=by
 refine bn bH m241 rfl ?_;unfold Pa at h;simp only[ZC,A241,aK,ca];obtain⟨g,d,h⟩:=ah h;refine ZF trivial ?_;refine ZSG hC_fZ0.1 (w_ey _ _ d F_fZ0 C_fZ0 hC_fZ0 hf_fZ0) ?_;cases h;exact ZL trivial (ZA @aK.eq_1 (ZA hC_fZ0.2 ((bK hC_fZ0))))
instance(a:af)(g:List aO):CW (Li a g) (fun(r:Bool)=>Ok A1 220 [(ar .o a),.lst .o 4 (g.map (aR .o))] (.b r)):=⟨fun r h=>by
 refine bn bH m220 rfl ?_;unfold Li at h;simp only[ZC,A220,aK,ca];obtain⟨l,i,h⟩:=ah h;refine ZF trivial ?_;refine ZSG trivial (CW.w _ i) ?_;obtain⟨c,h⟩|⟨c,h⟩:=aw h
 ·obtain⟨d,h⟩|⟨d,h⟩:=aw h
  ·obtain⟨m,j,h⟩:=ah h;have f:=ZA c d;refine ZF f ?_;refine ZSG f (w_el _ _ j 242 [.bp .o (.agg [.lst .o 1 (a.N.map AV.z),.lst .o 4 (a.F.map (aC .o))]) 0] ⟨fun ρ k=>by simp only[VS1,VS2,VS3,VS4,VS5,VS6,VT1,VT2,bB,bz,decide_true,decide_false,B0,A9,dS,dV,dN,ne_eq,not_false_eq_true,B2,B3,true_and,false_and,A6,A7,↓reduceIte,reduceCtorEq,A2,A8,A3,B4],by simp[aP,AV.ments]⟩ (fun _ _ h=>w_ds _ _ h)) ?_;cases h;exact ZL f @aK.eq_1
  ·cases h;exact ZL (ZA c d) @aK.eq_1
 ·cases h;exact ZL c @aK.eq_1⟩
theorem w_ed(a:Int)(p1Z0:af){r:Bool}(h:NK a p1Z0=some r):Ok A1 263 [.i a,.bp .o (ar .o p1Z0) 0] (.b r):=ZO m263 (NK.eq_1 _ _) trivial (ZA @tU.eq_1 @A263.eq_1) h
instance(a:Int)(p1Z0:af):CW (NK a p1Z0) (fun(r:Bool)=>Ok A1 263 [.i a,.bp .o (ar .o p1Z0) 0] (.b r)):=⟨fun r h=>w_ed a p1Z0 h⟩
def Qs(a:List Int)(F_fZ0:Nat)(C_fZ0:List AV)(v:Int):St:=⟨[(0,.lst .o 1 (a.map AV.i)),(1,.fn F_fZ0 C_fZ0),(7,.i (a.length:Int)),(8,.i v)],[]⟩
def w_bv(c:List Int)(j:Int->Option Bool)(F_fZ0:Nat)(C_fZ0:List AV)(hC_fZ0:ka C_fZ0)(hf_fZ0:∀(x0:Int)(r:Bool),j x0=some r->Ok A1 F_fZ0 ((.i x0)::C_fZ0) (.b r))(k:Int)(o:Int⊕(Unit⊕Int))(h:Hc c j k=some o):AWP (OkS A1) Cn (qL [0,1,7,8] [] (Qs c F_fZ0 C_fZ0) (qS (qX 0 [] [] (cK)) (qR aK (fun r=>.i r))) o) (Qs c F_fZ0 C_fZ0 k):=by
 have e:=ZA @Qs.eq_1 @cK.eq_1;unfold Hc at h;simp only[ZC,Qs,Cn];obtain⟨a,h⟩|⟨a,h⟩:=aw h
 ·obtain⟨m,d,h⟩:=ah h;obtain⟨p,l,h⟩:=ah h;have f:=ZA a (cg d);refine ZF f ?_;have f:=ZA f hC_fZ0.1;refine ZSG f (hf_fZ0 _ _ l) ?_;obtain⟨g,h⟩|⟨g,h⟩:=aw h
  ·cases h;exact ZL (ZA a (ZA (cg d) g)) (ZA @aK.eq_1 (ZA hC_fZ0.2 ((bK hC_fZ0))))
  ·cases h;exact ZL (ZA a (ZA (cg d) g)) (ZA e (ZA hC_fZ0.2 ((bK hC_fZ0))))
 ·cases h;exact ZL a (ZA e (ZA hC_fZ0.2 ((bK hC_fZ0))))
def w_ga(a:List Int)(c:Int->Option Bool){r:Int}(h:Xd a c=some r)(F_fZ0:Nat)(C_fZ0:List AV)(hC_fZ0:ka C_fZ0)(hf_fZ0:∀(x0:Int)(r:Bool),c x0=some r->Ok A1 F_fZ0 ((.i x0)::C_fZ0) (.b r)):Ok A1 217 [.lst .o 1 (a.map AV.i),.fn F_fZ0 C_fZ0] (.i r):=by
 refine bn bH m217 rfl ?_;unfold Xd at h;simp only[ZC,A217,aK,ca];obtain⟨d,g,h⟩:=ah h;try refine ZF trivial ?_
 refine cm (o:=d) (cT lS (aN (w_bv a c F_fZ0 C_fZ0 hC_fZ0 hf_fZ0) g ?_)) (fun k hv=>?_) (fun l hv e τ hne hq=>?_)
 ·exact ZK (ZA @Qs.eq_1 (ZA @cK.eq_1 (ZA hC_fZ0.2 ((bK hC_fZ0)))))
 ·subst hv;simp only[] at h;simp only[ZC,cK,RC];cases h;exact ZL trivial (ZA @aK.eq_1 (ZA hC_fZ0.2 ((bK hC_fZ0))))
 ·subst hv;simp only[] at h;obtain⟨rfl,j⟩:=hq;cases h;exact j
theorem w_ev(a:List Int)(c:Int->Option Bool){r:Bool}(h:PR a c=some r)(F_fZ0:Nat)(C_fZ0:List AV)(hC_fZ0:ka C_fZ0)(hf_fZ0:∀(x0:Int)(r:Bool),c x0=some r->Ok A1 F_fZ0 ((.i x0)::C_fZ0) (.b r)):Ok A1 177 [.lst .o 1 (a.map AV.i),.fn F_fZ0 C_fZ0] (.b r):=by
 refine bn bH m177 rfl ?_;unfold PR at h;simp only[ZC,A177,aK,ca];obtain⟨g,d,h⟩:=ah h;refine ZF trivial ?_;refine ZSG hC_fZ0.1 (w_ga _ _ d F_fZ0 C_fZ0 hC_fZ0 hf_fZ0) ?_;cases h;exact ZL trivial (ZA @aK.eq_1 (ZA hC_fZ0.2 ((bK hC_fZ0))))
instance(a:af)(d:List Int):CW (QH a d) (fun(r:Bool)=>Ok A1 244 [(ar .o a),.lst .o 1 (d.map AV.i)] (.b r)):=⟨fun r h=>by
 refine bn bH m244 rfl ?_;unfold QH at h;simp only[ZC,A244,aK,ca];obtain⟨l,g,h⟩:=ah h;refine ZF trivial ?_;refine ZSG trivial (CW.w _ g) ?_;obtain⟨c,h⟩|⟨c,h⟩:=aw h
 ·obtain⟨m,j,h⟩:=ah h;refine ZF c ?_;refine ZSG c (w_ev _ _ j 263 [.bp .o (.agg [.lst .o 1 (a.N.map AV.z),.lst .o 4 (a.F.map (aC .o))]) 0] ⟨fun ρ k=>by simp only[VS1,VS2,VS3,VS4,VS5,VS6,VT1,VT2,bB,bz,decide_true,decide_false,B0,A9,dS,dV,dN,ne_eq,not_false_eq_true,B2,B3,true_and,false_and,A6,A7,↓reduceIte,reduceCtorEq,A2,A8,A3,B4],by simp[aP,AV.ments]⟩ (fun _ _ h=>w_ed _ _ h)) ?_;cases h;exact ZL c @aK.eq_1
 ·cases h;exact ZL c @aK.eq_1⟩
instance(b:List Int):CW (GY b) (fun(r:List Int)=>Ok A1 80 [.lst .o 1 (b.map AV.i)] (.lst .u 1 (r.map AV.i))):=⟨fun r h=>by
 refine bn bH m80 rfl ?_;unfold GY at h;simp only[ZC,A80,V10,ca];obtain⟨a,h⟩|⟨a,h⟩:=aw h
 ·refine ZF a ?_;refine A0 ?_ ?_
  ·replace h:=ahl h;cases h;exact ZL a @V10.eq_1
  ·replace h:=ahd h;obtain⟨g,c,h⟩:=ah h;cases h;exact ZL (ZA a (aY c)) @V10.eq_1
 ·obtain⟨j,d,h⟩:=ah h;cases h;exact ZL (ZA a (aY d)) @V10.eq_1⟩
def Qn(b:Int)(c:Int)(d:List Int)(a:af)(v:Int×Int×List aj×Int×af):St:=⟨[(0,.i b),(1,.i c),(2,.lst .m 1 (d.map AV.i)),(7,.pt 1000000006 0 0),(25,.lst .o 4 (((a).F).map (aC .o))),(26,.i (((a).F).length:Int)),(27,.i v.1)],[(470000128,.arr 2 (v.2.2.1.map (ax .u))),(1000000001,.var (.i v.2.1)),(1000000002,.var (.sl 470000128 0 v.2.2.1.length)),(1000000004,.var (.i v.2.2.2.1)),(1000000005,.var (ar .o v.2.2.2.2)),(1000000006,.var (.fn 264 [.pt 1000000001 0 0,.pt 1000000002 0 0,.pt 1000000004 0 0,.pt 1000000005 0 0,.pt 1000000006 0 0]))]⟩
def DQ(v:Int×List aj×Int×af):St:=⟨[],[(470000128,.arr 2 (v.2.1.map (ax .u))),(1000000001,.var (.i v.1)),(1000000002,.var (.sl 470000128 0 v.2.1.length)),(1000000004,.var (.i v.2.2.1)),(1000000005,.var (ar .o v.2.2.2)),(1000000006,.var (.fn 264 [.pt 1000000001 0 0,.pt 1000000002 0 0,.pt 1000000004 0 0,.pt 1000000005 0 0,.pt 1000000006 0 0]))]⟩
def w_ab(g:Int)(j:Int)(a:List Int)(p:Int)(k:List aj)(q:Int)(d:af)(b1:Int->Int->List Int->Int->List aj->Int->af->Option (Int×List aj×Int×af))(l1:∀(g:Int)(j:Int)(a:List Int)(p:Int)(k:List aj)(q:Int)(d:af){r:Int×List aj×Int×af},b1 g j a p k q d=some r->OkM A1 264 [.i g,.i j,.sl 1000000000 0 a.length,.pt 1000000001 0 0,.pt 1000000002 0 0,.pt 1000000004 0 0,.pt 1000000005 0 0,.pt 1000000006 0 0] [(1000000000,.arr 1 (a.map AV.i)),(1000000001,.var (.i p)),(1000000002,.var (.sl 1000000003 0 k.length)),(1000000003,.arr 2 (k.map (ax .u))),(1000000004,.var (.i q)),(1000000005,.var (.agg [.lst .o 1 (((d).N).map AV.z),.lst .o 4 (((d).F).map (aC .o))])),(1000000006,.var (.fn 264 [.pt 1000000001 0 0,.pt 1000000002 0 0,.pt 1000000004 0 0,.pt 1000000005 0 0,.pt 1000000006 0 0]))] (.tup []) ([(470000128,.arr 2 (r.2.1.map (ax .u))),(1000000001,.var (.i r.1)),(1000000002,.var (.sl 470000128 0 r.2.1.length)),(1000000004,.var (.i r.2.2.1)),(1000000005,.var (.agg [.lst .o 1 (((r.2.2.2).N).map AV.z),.lst .o 4 (((r.2.2.2).F).map (aC .o))])),(1000000006,.var (.fn 264 [.pt 1000000001 0 0,.pt 1000000002 0 0,.pt 1000000004 0 0,.pt 1000000005 0 0,.pt 1000000006 0 0]))]))(c:Int×Int×List aj×Int×af)(o:(Int×Int×List aj×Int×af)⊕(Int×List aj×Int×af))(h:KG g j a d b1 c=some o):AWP (OkS A1) rD (qL [0,1,2,7,25,26,27] [470000128,1000000001,1000000002,1000000004,1000000005,1000000006] (Qn g j a d) (qX 0 [] [470000128,1000000001,1000000002,1000000004,1000000005,1000000006] (DQ)) o) (Qn g j a d c):=by
 have e:=ZA @Qn.eq_1 @DQ.eq_1;unfold KG at h;simp only[ZC,Qn,rD];obtain⟨t,h⟩|⟨t,h⟩:=aw h
 ·obtain⟨b2,m1,h⟩:=ah h;obtain⟨p1,q1,h⟩:=ah h;have f:=ZA t (cg m1);refine ZF f ?_;refine ZSG f (CW.w _ q1) ?_;obtain⟨s1,t1,h⟩:=ah h;try refine ZF f ?_
  refine aF (sh:=(fun v=>⟨[(0,.i g),(1,.i j),(2,.lst .m 1 (a.map AV.i)),(7,.pt 1000000006 0 0),(11,.i c.1),(13,.i p1),(25,.lst .o 4 (((d).F).map (aC .o))),(26,.i (((d).F).length:Int)),(27,.i c.1),(43,.b v)],[(470000128,.arr 2 (c.2.2.1.map (ax .u))),(1000000001,.var (.i c.2.1)),(1000000002,.var (.sl 470000128 0 c.2.2.1.length)),(1000000004,.var (.i c.2.2.2.1)),(1000000005,.var (ar .o c.2.2.2.2)),(1000000006,.var (.fn 264 [.pt 1000000001 0 0,.pt 1000000002 0 0,.pt 1000000004 0 0,.pt 1000000005 0 0,.pt 1000000006 0 0]))]⟩)) (s:=s1) ?_ ?_
  ·replace h:=t1;obtain⟨w,h⟩|⟨w,h⟩:=aw h
   ·obtain⟨c2,u1,h⟩:=ah h;cases h;exact ZL (ZA f (ZA w (aY u1))) trivial
   ·cases h;exact ZL (ZA f w) trivial
  ·simp only[ZC,xy];obtain⟨x,h⟩|⟨x,h⟩:=aw h
   ·obtain⟨d2,v1,h⟩:=ah h;have c1:(0:Int)<=(a.length:Int):=Int.natCast_nonneg _;obtain⟨y,l,h⟩:=bb h;have w1:Row.arr 1 [(.i c.1:AV)]=Row.arr 1 (y.map AV.i):=by rw[<-l];rfl
    have d1:y.length=1:=by rw[<-l];rfl
    obtain⟨g2,y1,h⟩:=ah h;have g1:=aY y1;obtain⟨i1,a1,h⟩:=bb h;have z1:a.map AV.i++y.map AV.i=i1.map AV.i:=by rw[<-a1,A5]
    have j1:a.length+1=i1.length:=by simp[<-l,<-a1]<;>omega
    rw[j1] at g1;have k1:(0:Nat)<1:=by decide
    obtain⟨i2,a2,h⟩:=ah h;have f:=ZA f (ZA x (ZA (aY v1) (ZA c1 (ZA w1 (ZA d1 (ZA g1 (ZA z1 (ZA j1 k1))))))));refine ZF f ?_;refine ZWG f (l1 _ _ _ _ _ _ _ a2) [470000128,1000000001,1000000002,1000000004,1000000005,1000000006] [476000128] ?_;cases h;exact ZL f (ZA e (ZA l.symm (ZA a1.symm (ZA c1 (ZA d1 k1)))))
   ·cases h;exact ZL (ZA f x) e
 ·cases h;exact ZL t e
def aiz(m:Int->Int->List Int->Int->List aj->Int->af->Option (Int×List aj×Int×af))(t:∀(g:Int)(j:Int)(b:List Int)(k:Int)(a:List aj)(d:Int)(c:af){r:Int×List aj×Int×af},m g j b k a d c=some r->OkM A1 264 [.i g,.i j,.sl 1000000000 0 b.length,.pt 1000000001 0 0,.pt 1000000002 0 0,.pt 1000000004 0 0,.pt 1000000005 0 0,.pt 1000000006 0 0] [(1000000000,.arr 1 (b.map AV.i)),(1000000001,.var (.i k)),(1000000002,.var (.sl 1000000003 0 a.length)),(1000000003,.arr 2 (a.map (ax .u))),(1000000004,.var (.i d)),(1000000005,.var (.agg [.lst .o 1 (((c).N).map AV.z),.lst .o 4 (((c).F).map (aC .o))])),(1000000006,.var (.fn 264 [.pt 1000000001 0 0,.pt 1000000002 0 0,.pt 1000000004 0 0,.pt 1000000005 0 0,.pt 1000000006 0 0]))] (.tup []) ([(470000128,.arr 2 (r.2.1.map (ax .u))),(1000000001,.var (.i r.1)),(1000000002,.var (.sl 470000128 0 r.2.1.length)),(1000000004,.var (.i r.2.2.1)),(1000000005,.var (.agg [.lst .o 1 (((r.2.2.2).N).map AV.z),.lst .o 4 (((r.2.2.2).F).map (aC .o))])),(1000000006,.var (.fn 264 [.pt 1000000001 0 0,.pt 1000000002 0 0,.pt 1000000004 0 0,.pt 1000000005 0 0,.pt 1000000006 0 0]))]))(g:Int)(j:Int)(b:List Int)(k:Int)(a:List aj)(d:Int)(c:af){r:Int×List aj×Int×af}(h:Sc m g j b k a d c=some r):OkM A1 264 [.i g,.i j,.sl 1000000000 0 b.length,.pt 1000000001 0 0,.pt 1000000002 0 0,.pt 1000000004 0 0,.pt 1000000005 0 0,.pt 1000000006 0 0] [(1000000000,.arr 1 (b.map AV.i)),(1000000001,.var (.i k)),(1000000002,.var (.sl 1000000003 0 a.length)),(1000000003,.arr 2 (a.map (ax .u))),(1000000004,.var (.i d)),(1000000005,.var (ar .o c)),(1000000006,.var (.fn 264 [.pt 1000000001 0 0,.pt 1000000002 0 0,.pt 1000000004 0 0,.pt 1000000005 0 0,.pt 1000000006 0 0]))] (.tup []) ([(470000128,.arr 2 (r.2.1.map (ax .u))),(1000000001,.var (.i r.1)),(1000000002,.var (.sl 470000128 0 r.2.1.length)),(1000000004,.var (.i r.2.2.1)),(1000000005,.var (.agg [.lst .o 1 (((r.2.2.2).N).map AV.z),.lst .o 4 (((r.2.2.2).F).map (aC .o))])),(1000000006,.var (.fn 264 [.pt 1000000001 0 0,.pt 1000000002 0 0,.pt 1000000004 0 0,.pt 1000000005 0 0,.pt 1000000006 0 0]))]):=by
 refine aU (lr:=[470000128,1000000001,1000000002,1000000004,1000000005,1000000006]) bH aca rfl rfl ?_;unfold Sc at h;simp only[ZC,Mj,bM];obtain⟨l,h⟩|⟨l,h⟩:=aw h
 ·obtain⟨c1,d1,h⟩:=ah h;refine ZF l ?_;refine ZUG l (CW.w _ d1) ?_;obtain⟨q,p,h⟩:=bb h;have g1:Row.arr 2 [(.agg [.i d,.lst .u 1 (c1.map AV.i)]:AV)]=Row.arr 2 (q.map (ax .u)):=by rw[<-p];rfl
  have v:q.length=1:=by rw[<-p];rfl
  obtain⟨k1,i1,h⟩:=ah h;have w:=aY i1;obtain⟨x,s,h⟩:=bb h;have j1:a.map (ax .u)++q.map (ax .u)=x.map (ax .u):=by rw[<-s,A5]
  have y:a.length+1=x.length:=by simp[<-p,<-s]<;>omega
  rw[y] at w;cases h;exact ZL (ZA l (ZA g1 (ZA v (ZA w (ZA j1 y))))) (ZA @bM.eq_1 (ZA p.symm (ZA s.symm v)))
 ·obtain⟨l1,a1,h⟩:=ah h;try refine ZF l ?_
  first|refine cQ (bf (aN (w_ab g j b k a d c m t) a1 ?_)) (fun τ b1=>?_)|refine dM (aN (w_ab g j b k a d c m t) a1 ?_) (fun τ b1=>?_)
  ·exact ZK (ZA @Qn.eq_1 @DQ.eq_1)
  ·cases h;refine gR b1 (by decide) ?_ rfl;exact ZK (ZA @bM.eq_1 @DQ.eq_1)
theorem w_cy:∀(n:Nat)(d:Int)(g:Int)(a:List Int)(j:Int)(b:List aj)(k:Int)(c:af){r:Int×List aj×Int×af}(_:Hx n d g a j b k c=some r),OkM A1 264 [.i d,.i g,.sl 1000000000 0 a.length,.pt 1000000001 0 0,.pt 1000000002 0 0,.pt 1000000004 0 0,.pt 1000000005 0 0,.pt 1000000006 0 0] [(1000000000,.arr 1 (a.map AV.i)),(1000000001,.var (.i j)),(1000000002,.var (.sl 1000000003 0 b.length)),(1000000003,.arr 2 (b.map (ax .u))),(1000000004,.var (.i k)),(1000000005,.var (.agg [.lst .o 1 (((c).N).map AV.z),.lst .o 4 (((c).F).map (aC .o))])),(1000000006,.var (.fn 264 [.pt 1000000001 0 0,.pt 1000000002 0 0,.pt 1000000004 0 0,.pt 1000000005 0 0,.pt 1000000006 0 0]))] ((fun(r:Int×List aj×Int×af)=>.tup []) r) ((fun(r:Int×List aj×Int×af)=>[(470000128,.arr 2 (r.2.1.map (ax .u))),(1000000001,.var (.i r.1)),(1000000002,.var (.sl 470000128 0 r.2.1.length)),(1000000004,.var (.i r.2.2.1)),(1000000005,.var (.agg [.lst .o 1 (((r.2.2.2).N).map AV.z),.lst .o 4 (((r.2.2.2).F).map (aC .o))])),(1000000006,.var (.fn 264 [.pt 1000000001 0 0,.pt 1000000002 0 0,.pt 1000000004 0 0,.pt 1000000005 0 0,.pt 1000000006 0 0]))]) r)
 |0,d,g,a,j,b,k,c,_,h=>by cases h
 |n+1,d,g,a,j,b,k,c,_,h=>aiz (Hx n) (w_cy n) d g a j b k c h
def Ub(b:Int)(c:Int)(d:List Int)(a:af)(v:Int×Int×List aj×Int×af):St:=⟨[(0,.i b),(1,.i c),(2,.lst .u 1 (d.map AV.i)),(7,.pt 1000000005 0 0),(25,.lst .o 4 (((a).F).map (aC .o))),(26,.i (((a).F).length:Int)),(27,.i v.1)],[(470000064,.arr 2 (v.2.2.1.map (ax .u))),(1000000000,.var (.i v.2.1)),(1000000001,.var (.sl 470000064 0 v.2.2.1.length)),(1000000003,.var (.i v.2.2.2.1)),(1000000004,.var (ar .o v.2.2.2.2)),(1000000005,.var (.fn 264 [.pt 1000000000 0 0,.pt 1000000001 0 0,.pt 1000000003 0 0,.pt 1000000004 0 0,.pt 1000000005 0 0]))]⟩
def Ej(v:Int×List aj×Int×af):St:=⟨[],[(470000064,.arr 2 (v.2.1.map (ax .u))),(1000000000,.var (.i v.1)),(1000000001,.var (.sl 470000064 0 v.2.1.length)),(1000000003,.var (.i v.2.2.1)),(1000000004,.var (ar .o v.2.2.2)),(1000000005,.var (.fn 264 [.pt 1000000000 0 0,.pt 1000000001 0 0,.pt 1000000003 0 0,.pt 1000000004 0 0,.pt 1000000005 0 0]))]⟩
instance(g:Int)(j:Int)(c:List Int)(d:af):CL (agh g j c d) qG [0,1,2,7,25,26,27] [470000064,1000000000,1000000001,1000000003,1000000004,1000000005] (Ub g j c d) (qX 0 [] [470000064,1000000000,1000000001,1000000003,1000000004,1000000005] (Ej)):=⟨fun a o h=>by
 have e:=ZA @Ub.eq_1 @Ej.eq_1;unfold agh at h;simp only[ZC,Ub,qG];obtain⟨l,h⟩|⟨l,h⟩:=aw h
 ·obtain⟨u1,d1,h⟩:=ah h;obtain⟨g1,i1,h⟩:=ah h;have f:=ZA l (cg d1);refine ZF f ?_;refine ZSG f (CW.w _ i1) ?_;obtain⟨j1,k1,h⟩:=ah h;try refine ZF f ?_
  refine aF (sh:=(fun v=>⟨[(0,.i g),(1,.i j),(2,.lst .u 1 (c.map AV.i)),(7,.pt 1000000005 0 0),(11,.i a.1),(13,.i g1),(25,.lst .o 4 (((d).F).map (aC .o))),(26,.i (((d).F).length:Int)),(27,.i a.1),(43,.b v)],[(470000064,.arr 2 (a.2.2.1.map (ax .u))),(1000000000,.var (.i a.2.1)),(1000000001,.var (.sl 470000064 0 a.2.2.1.length)),(1000000003,.var (.i a.2.2.2.1)),(1000000004,.var (ar .o a.2.2.2.2)),(1000000005,.var (.fn 264 [.pt 1000000000 0 0,.pt 1000000001 0 0,.pt 1000000003 0 0,.pt 1000000004 0 0,.pt 1000000005 0 0]))]⟩)) (s:=j1) ?_ ?_
  ·replace h:=k1;obtain⟨m,h⟩|⟨m,h⟩:=aw h
   ·obtain⟨v1,l1,h⟩:=ah h;cases h;exact ZL (ZA f (ZA m (aY l1))) trivial
   ·cases h;exact ZL (ZA f m) trivial
  ·simp only[ZC,Ah];obtain⟨p,h⟩|⟨p,h⟩:=aw h
   ·obtain⟨w1,m1,h⟩:=ah h;have w:(0:Int)<=(c.length:Int):=Int.natCast_nonneg _;obtain⟨q,k,h⟩:=bb h;have p1:Row.arr 1 [(.i a.1:AV)]=Row.arr 1 (q.map AV.i):=by rw[<-k];rfl
    have x:q.length=1:=by rw[<-k];rfl
    obtain⟨y1,q1,h⟩:=ah h;have y:=aY q1;obtain⟨a1,t,h⟩:=bb h;have s1:c.map AV.i++q.map AV.i=a1.map AV.i:=by rw[<-t,A5]
    have b1:c.length+1=a1.length:=by simp[<-k,<-t]<;>omega
    rw[b1] at y;have c1:(0:Nat)<1:=by decide
    obtain⟨z1,t1,h⟩:=ah h;have f:=ZA f (ZA p (ZA (aY m1) (ZA w (ZA p1 (ZA x (ZA y (ZA s1 (ZA b1 c1))))))));refine ZF f ?_;refine ZWG f (w_cy N0 _ _ _ _ _ _ _ t1) [470000128,1000000001,1000000002,1000000004,1000000005,1000000006] [476000128] ?_;cases h;exact ZL f (ZA e (ZA k.symm (ZA t.symm (ZA w (ZA x c1)))))
   ·cases h;exact ZL (ZA f p) e
 ·cases h;exact ZL l e⟩
instance(d:Int)(g:Int)(j:List Int)(q:Int)(a:List aj)(l:Int)(b:af):CW (WS d g j q a l b) (fun(r:Int×List aj×Int×af)=>OkM A1 264 [.i d,.i g,.lst .u 1 (j.map AV.i),.pt 1000000000 0 0,.pt 1000000001 0 0,.pt 1000000003 0 0,.pt 1000000004 0 0,.pt 1000000005 0 0] [(1000000000,.var (.i q)),(1000000001,.var (.sl 1000000002 0 a.length)),(1000000002,.arr 2 (a.map (ax .u))),(1000000003,.var (.i l)),(1000000004,.var (ar .o b)),(1000000005,.var (.fn 264 [.pt 1000000000 0 0,.pt 1000000001 0 0,.pt 1000000003 0 0,.pt 1000000004 0 0,.pt 1000000005 0 0]))] (.tup []) ([(470000064,.arr 2 (r.2.1.map (ax .u))),(1000000000,.var (.i r.1)),(1000000001,.var (.sl 470000064 0 r.2.1.length)),(1000000003,.var (.i r.2.2.1)),(1000000004,.var (.agg [.lst .o 1 (((r.2.2.2).N).map AV.z),.lst .o 4 (((r.2.2.2).F).map (aC .o))])),(1000000005,.var (.fn 264 [.pt 1000000000 0 0,.pt 1000000001 0 0,.pt 1000000003 0 0,.pt 1000000004 0 0,.pt 1000000005 0 0]))])):=⟨fun r h=>by
 refine aU (lr:=[470000064,1000000000,1000000001,1000000003,1000000004,1000000005]) bH afq rfl rfl ?_;unfold WS at h;simp only[ZC,MI,bM];obtain⟨c,h⟩|⟨c,h⟩:=aw h
 ·obtain⟨a1,b1,h⟩:=ah h;refine ZF c ?_;refine ZUG c (CW.w _ b1) ?_;obtain⟨m,k,h⟩:=bb h;have c1:Row.arr 2 [(.agg [.i l,.lst .u 1 (a1.map AV.i)]:AV)]=Row.arr 2 (m.map (ax .u)):=by rw[<-k];rfl
  have s:m.length=1:=by rw[<-k];rfl
  obtain⟨i1,d1,h⟩:=ah h;have t:=aY d1;obtain⟨v,p,h⟩:=bb h;have g1:a.map (ax .u)++m.map (ax .u)=v.map (ax .u):=by rw[<-p,A5]
  have w:a.length+1=v.length:=by simp[<-k,<-p]<;>omega
  rw[w] at t;cases h;exact ZL (ZA c (ZA c1 (ZA s (ZA t (ZA g1 w))))) (ZA @bM.eq_1 (ZA k.symm (ZA p.symm s)))
 ·obtain⟨j1,x,h⟩:=ah h;try refine ZF c ?_
  first|refine cQ (bf (aN CL.w x ?_)) (fun τ y=>?_)|refine dM (aN CL.w x ?_) (fun τ y=>?_)
  ·exact ZK (ZA @Ub.eq_1 @Ej.eq_1)
  ·cases h;refine gR y (by decide) ?_ rfl;exact ZK (ZA @bM.eq_1 @Ej.eq_1)⟩
def Xw(a:af)(b:aj)(v:Int×Int):St:=⟨[(2,.pt 2 0 0),(5,.i v.1),(9,.lst .o 1 (b.F.map AV.i)),(10,.i (b.F.length:Int)),(11,.i v.2)],[(2,.var (ar .o a))]⟩
instance(a:af)(b:aj):CL (adb a b) vZ [2,5,9,10,11] [2] (Xw a b) (qX 0 [5] [] (pK)):=⟨fun d o h=>by
 unfold adb at h;simp only[ZC,Xw,vZ];exact ZT trivial (ZA @Xw.eq_1 (ZA @pK.eq_1 @vZ.eq_1)) h⟩
instance(a:af)(b:aj):CW (Gq a b) (fun(r:Int)=>Ok A1 223 [(ar .o a),(ax .o b)] (.i r)):=⟨fun r h=>ZO m223 (Gq.eq_1 _ _) ZJ (ZA @Xw.eq_1 (ZA @pK.eq_1 (ZA @Ru.eq_1 (ZA @aK.eq_1 @A223.eq_1)))) h⟩
def XA(s1Z0:List Int)(s2Z0:List Int)(v:Int):St:=⟨[(0,.lst .o 1 (s1Z0.map AV.i)),(1,.lst .o 1 (s2Z0.map AV.i)),(9,.lst .o 1 (s1Z0.map AV.i)),(10,.i (s1Z0.length:Int)),(11,.i v)],[]⟩
def Pu(s1Z0:List Int)(s2Z0:List Int)(v:Unit):St:=⟨[(0,.lst .o 1 (s1Z0.map AV.i)),(1,.lst .o 1 (s2Z0.map AV.i))],[]⟩
instance(s1Z0:List Int)(s2Z0:List Int):CL (IG s1Z0 s2Z0) BS [0,1,9,10,11] [] (XA s1Z0 s2Z0) (qS (qX 0 [0,1] [] (Pu s1Z0 s2Z0)) (qR aK (fun r=>.i r))):=⟨fun d o h=>by
 unfold IG at h;simp only[ZC,XA,BS];exact ZT trivial (ZA @aK.eq_1 (ZA @XA.eq_1 @Pu.eq_1)) h⟩
instance(s1Z0:List Int)(s2Z0:List Int):CW (NA s1Z0 s2Z0) (fun(r:Int)=>Ok A1 225 [.lst .o 1 (s1Z0.map AV.i),.lst .o 1 (s2Z0.map AV.i)] (.i r)):=⟨fun r h=>ZO m225 (NA.eq_1 _ _) ZJ (ZA @XA.eq_1 (ZA @Pu.eq_1 (ZA @Na.eq_1 (ZA @aK.eq_1 @A225.eq_1)))) h⟩
instance(c:af)(d:aj)(g:aj):CW (xo c d g) (fun(r:Int)=>Ok A1 190 [(ar .o c),(ax .o d),(ax .o g)] (.i r)):=⟨fun r h=>ZO m190 (xo.eq_1 _ _ _) ZJB (ZA @dt.eq_1 @A190.eq_1) h⟩
theorem w_cz(a:aj)(b:aj)(p2Z0:af){r:Int}(h:xR a b p2Z0=some r):Ok A1 266 [(ax .o a),(ax .o b),.bp .o (ar .o p2Z0) 0] (.i r):=ZO m266 (xR.eq_1 _ _ _) trivial (ZA @An.eq_1 @A266.eq_1) h
instance(a:aj)(b:aj)(p2Z0:af):CW (xR a b p2Z0) (fun(r:Int)=>Ok A1 266 [(ax .o a),(ax .o b),.bp .o (ar .o p2Z0) 0] (.i r)):=⟨fun r h=>w_cz a b p2Z0 h⟩
instance(b:af)(g:Int)(j:Int):CW (NR b g j) (fun(r:List aj)=>Ok A1 245 [(ar .o b),.i g,.i j] (.lst .u 2 (r.map (ax .u)))):=⟨fun r h=>by
 refine bn bH m245 rfl ?_;unfold NR at h;simp only[ZC,A245,dt,ca];obtain⟨a,m,h⟩:=ah h;try refine ZF trivial ?_
 refine aF (sh:=(fun v=>⟨[(3,.pt 3 0 0),(7,.pt 7 0 0)],[(3,.var (ar .o v.1)),(7,.var (.sl 500000448 0 v.2.length)),(500000448,.arr 2 (v.2.map (ax .u)))]⟩)) (s:=a) ?_ ?_
 ·replace h:=m;obtain⟨c,h⟩|⟨c,h⟩:=aw h
  ·obtain⟨w,p,h⟩:=ah h;obtain⟨x,q,h⟩:=ah h;have f:=ZA c (aY p);refine ZF f ?_;refine ZWG f (CW.w _ q) [470000064,1000000000,1000000001,1000000003,1000000004,1000000005] [471900064] ?_;cases h;exact ZL f trivial
  ·cases h;exact ZL c trivial
 ·simp only[ZC,RU];obtain⟨d,k,h⟩:=ah h;have l:d.length=a.2.length:=lm k;refine ZF trivial ?_;refine nW (by simp only[VS1,VS2,VS3,VS4,VS5,VS6,VT1,VT2,bB,bz,decide_true,decide_false,B0,A9,dS,dV,dN,ne_eq,not_false_eq_true,B2,B3,true_and,false_and,A6,A7,↓reduceIte,reduceCtorEq,A2,A8,A3,B4];exact(Nk VB (ax .u) (qy .u) (xs:=a.2) (cmp:=(fun x0 x1=>xR x0 x1 a.1)) (C:=[.bp .o (.agg [.lst .o 1 (a.1.N.map AV.z),.lst .o 4 (a.1.F.map (aC .o))]) 0]) (by simp[C1]) (by simp only[VS1,VS2,VS3,VS4,VS5,VS6,VT1,VT2,bB,bz,decide_true,decide_false,B0,A9,dS,dV,dN,ne_eq,not_false_eq_true,B2,B3,true_and,false_and,A6,A7,↓reduceIte,reduceCtorEq,A2,A8,A3,B4,List.map_cons,List.map_nil]) rfl (by simp[Wf,VS1,VS2,VS3,VS4,VS5,VS6,VT1,VT2]) (by simp[VS1,VS2,VS3,VS4,VS5,VS6,VT1,VT2]) ((abr m266)) (fun _ _ _ hq=>by simp only[gF,VS1,VS2,VS3,VS4,VS5,VS6,VT1,VT2,bB,bz,decide_true,decide_false,B0,A9,dS,dV,dN,ne_eq,not_false_eq_true,B2,B3,true_and,false_and,A6,A7,↓reduceIte,reduceCtorEq,A2,A8,A3,B4];exact w_cz _ _ _ hq) k)) (by simp[VS1,VS2,VS3,VS4,VS5,VS6,VT1,VT2]) (by first|exact KM [1000000000,1000000001] rfl (by decide+kernel)|simp[VS1,VS2,VS3,VS4,VS5,VS6,VT1,VT2]) ?_;refine ZG ?_;have t:sub (d.map (ax .u)) 0 a.2.length=d.map (ax .u):=uC _ (by simp[l]);cases h;exact ZL t (ZA @dt.eq_1 l)⟩
instance(c:af)(g:Int)(j:Int):CW (Ge c g j) (fun(r:List aj×Bool)=>Ok A1 221 [(ar .o c),.i g,.i j] (.tup [.lst .u 2 (r.1.map (ax .u)),.b r.2])):=⟨fun r h=>by
 refine bn bH m221 rfl ?_;unfold Ge at h;simp only[ZC,A221,gt,ca];obtain⟨q,t,h⟩:=ah h;try refine ZF trivial ?_
 refine aF (sh:=(fun v=>⟨[(1,.i g),(2,.i j),(3,.pt 3 0 0),(19,.b v)],[(3,.var (ar .o c))]⟩)) (s:=q) ?_ ?_
 ·replace h:=t;obtain⟨k,d,h⟩:=bb h;have w:Row.arr 1 [(.i g:AV),(.i j:AV)]=Row.arr 1 (k.map AV.i):=by rw[<-d];rfl
  have l:k.length=2:=by rw[<-d];rfl
  have x:sub (k.map AV.i) 0 2=k.map AV.i:=uC _ (by simp[<-d]);obtain⟨b1,y,h⟩:=ah h;have f:=ZA w (ZA l x);refine ZF f ?_;refine ZSG f (CW.w _ y) ?_;obtain⟨m,h⟩|⟨m,h⟩:=aw h
  ·cases h;exact ZL (ZA f m) (ZA d.symm l)
  ·cases h;exact ZL (ZA f m) (ZA d.symm l)
 ·simp only[ZC,OL];obtain⟨a,h⟩|⟨a,h⟩:=aw h
  ·cases h;exact ZL a @gt.eq_1
  ·obtain⟨c1,a1,h⟩:=ah h;refine ZF a ?_;refine ZUG a (CW.w _ a1) ?_;obtain⟨p,h⟩|⟨p,h⟩:=aw h
   ·cases h;exact ZL (ZA a p) @gt.eq_1
   ·cases h;exact ZL (ZA a p) @gt.eq_1⟩
def WE(a:List aA)(b:Int)(v:Int):St:=⟨[(0,.lst .o 2 (a.map (aJ .o))),(1,.i b),(6,.i v)],[]⟩
instance(c:List aA)(d:Int):CL (Pd c d) vS [0,1,6] [] (WE c d) (qS (qX 0 [] [] (cK)) (qR lC (fun r=>.tup [.i r.1,.b r.2]))):=⟨fun j o h=>by
 unfold Pd at h;simp only[ZC,WE,vS];exact ZT trivial (ZA @WE.eq_1 (ZA @cK.eq_1 (ZA @lC.eq_1 @vS.eq_1))) h⟩
instance(c:List aA)(d:Int):CW (Mx c d) (fun(r:Int×Bool)=>Ok A1 246 [.lst .o 2 (c.map (aJ .o)),.i d] (.tup [.i r.1,.b r.2])):=⟨fun r h=>ZO m246 (Mx.eq_1 _ _) ZJ (ZA @WE.eq_1 (ZA @cK.eq_1 (ZA @QX.eq_1 (ZA @OC.eq_1 (ZA @lC.eq_1 @A246.eq_1))))) h⟩
instance(d:List aA)(k:Int)(g:Int):CW (Mm d k g) (fun(r:Int×Bool)=>Ok A1 222 [.lst .o 2 (d.map (aJ .o)),.i k,.i g] (.tup [.i r.1,.b r.2])):=⟨fun r h=>by
 refine bn bH m222 rfl ?_;unfold Mm at h;simp only[ZC,A222,gt,ca];obtain⟨p,q,h⟩:=ah h;refine ZF trivial ?_;refine ZUG trivial (CW.w _ q) ?_;obtain⟨t,u,h⟩:=ah h;try refine ZF trivial ?_
 refine aF (sh:=(fun v=>⟨[(0,.lst .o 2 (d.map (aJ .o))),(2,.i g),(8,.i p.1),(23,.b v)],[]⟩)) (s:=t) ?_ ?_
 ·replace h:=u;obtain⟨a,h⟩|⟨a,h⟩:=aw h
  ·cases h;exact ZL a trivial
  ·obtain⟨x,w,h⟩:=ah h;refine ZF a ?_;refine ZSG a (CW.w _ w) ?_;cases h;exact ZL a trivial
 ·simp only[ZC,Lx];obtain⟨c,h⟩|⟨c,h⟩:=aw h
  ·cases h;exact ZL c @gt.eq_1
  ·obtain⟨y,l,h⟩:=ah h;obtain⟨z,m,h⟩:=ah h;obtain⟨j,h⟩|⟨j,h⟩:=aw h
   ·cases h;exact ZL (ZA c (ZA (cg l) (ZA (aY m) j))) @gt.eq_1
   ·cases h;exact ZL (ZA c (ZA (cg l) (ZA (aY m) j))) @gt.eq_1⟩
def XV(c:af)(d:List aA)(a:aO)(b:List aj×Bool)(v:Int×List aq):St:=⟨[(1,.lst .o 2 (d.map (aJ .o))),(3,.pt 3 0 0),(5,.pt 5 0 0),(10,.sl 10 0 v.2.length),(37,.sl 8 0 b.1.length),(38,.i (b.1.length:Int)),(39,.i v.1)],[(3,.var (ar .o c)),(5,.var (aR .o a)),(8,.arr 2 (b.1.map (ax .u))),(10,.arr 3 (v.2.map (ay .m)))]⟩
def Fu(v:List aq):St:=⟨[(10,.sl 10 0 v.length)],[(10,.arr 3 (v.map (ay .m)))]⟩
instance(c:af)(d:List aA)(g:aO)(j:List aj×Bool):CL (IM c d g j) nB [1,3,5,10,37,38,39] [3,5,8,10] (XV c d g j) (qX 0 [10] [10] (Fu)):=⟨fun a o h=>by
 unfold IM at h;simp only[ZC,XV,nB];exact ZT ZJB (ZA @XV.eq_1 (ZA @Fu.eq_1 @nB.eq_1)) h⟩
instance(c:af)(g:List aA)(a:aO):CW (IA c g a) (fun(r:Bool×List aq)=>OkM A1 186 [(ar .o c),.lst .o 2 (g.map (aJ .o)),(aR .o a)] [] (.tup [.sl 6 0 r.2.length,.b r.1]) ([(6,.arr 3 (r.2.map (ay .m)))])):=⟨fun r h=>by
 refine aU (lr:=[6]) bH aav rfl rfl ?_;unfold IA at h;simp only[ZC,SU,gt];obtain⟨t,w,h⟩:=ah h;try refine ZF trivial ?_
 refine aF (sh:=(fun v=>⟨[(1,.lst .o 2 (g.map (aJ .o))),(3,.pt 3 0 0),(5,.pt 5 0 0),(24,.b v)],[(3,.var (ar .o c)),(5,.var (aR .o a))]⟩)) (s:=t) ?_ ?_
 ·replace h:=w;obtain⟨i1,x,h⟩:=ah h;refine ZF trivial ?_;refine ZSG trivial (CW.w _ x) ?_;obtain⟨l,h⟩|⟨l,h⟩:=aw h
  ·cases h;exact ZL l trivial
  ·obtain⟨j,k,h⟩:=bb h;have y:Row.arr 4 [(.agg [.i ((a).N),.i ((a).L),.i ((a).F),.i ((a).W)]:AV)]=Row.arr 4 (j.map (aR .u)):=by rw[<-k];rfl
   have q:j.length=1:=by rw[<-k];rfl
   have a1:sub (j.map (aR .u)) 0 1=j.map (aR .u):=uC _ (by simp[<-k]);obtain⟨j1,b1,h⟩:=ah h;have f:=ZA l (ZA y (ZA q a1));refine ZF f ?_;refine ZSG f (CW.w _ b1) ?_;cases h;exact ZL f (ZA k.symm q)
 ·simp only[ZC,xt];obtain⟨d,h⟩|⟨d,h⟩:=aw h
  ·cases h;exact ZL d @gt.eq_1
  ·obtain⟨c1,d1,h⟩:=ah h;refine ZF d ?_;refine ZUG d (CW.w _ d1) ?_;obtain⟨p,h⟩|⟨p,h⟩:=aw h
   ·cases h;exact ZL (ZA d p) @gt.eq_1
   ·obtain⟨k1,g1,h⟩:=ah h;have f:=ZA d p;try refine ZF f ?_
    refine aF (bf (aN CL.w g1 ?_)) ?_
    ·exact ZK (ZA @XV.eq_1 @Fu.eq_1)
    ·simp only[ZC,Fu,yB];cases h;exact ZL f @gt.eq_1⟩
instance(a:aq):CW (M_f a) (fun(r:Int)=>Ok A1 187 [(ay .o a)] (.i r)):=⟨fun r h=>ZO m187 (M_f.eq_1 _) trivial (ZA @V10.eq_1 @A187.eq_1) h⟩
instance(a:aq)(b:aq):CW (zn a b) (fun(r:Int)=>Ok A1 238 [(ay .o a),(ay .o b)] (.i r)):=⟨fun r h=>ZO m238 (zn.eq_1 _ _) trivial (ZA @aK.eq_1 @A238.eq_1) h⟩
def S_u(a:Nat)(b:Nat)(c:Int)(d:Int)(g:Int×List aq)(v:Int×List aq):St:=⟨[(0,.sl 1000000000 a b),(1,.i c),(2,.i d),(3,.fn 238 []),(8,.i g.1),(9,.i v.1)],[(1000000000,.arr 3 (v.2.map (ay .m)))]⟩
def Wu(a:Nat)(b:Nat)(c:Int)(d:Int)(g:Int×List aq)(v:List aq):St:=⟨[(0,.sl 1000000000 a b),(1,.i c),(2,.i d),(3,.fn 238 []),(8,.i g.1)],[(1000000000,.arr 3 (v.map (ay .m)))]⟩
def w_u(a:Nat)(d:Nat)(g:Int)(j:Int)(k:Int×List aq)(c:Int×List aq)(o:(Int×List aq)⊕(List aq))(h:M_u a d g c=some o):AWP (OkS A1) rB (qL [0,1,2,3,8,9] [1000000000] (S_u a d g j k) (qX 2 [0,1,2,3,8] [1000000000] (Wu a d g j k)) o) (S_u a d g j k c):=by
 have e:=ZA @S_u.eq_1 @Wu.eq_1;unfold M_u at h;simp only[ZC,S_u,rB];obtain⟨y,z,h⟩:=ah h;try refine ZF trivial ?_
 refine aF (sh:=(fun v=>⟨[(0,.sl 1000000000 a d),(1,.i g),(2,.i j),(3,.fn 238 []),(8,.i k.1),(9,.i c.1),(34,.b v)],[(1000000000,.arr 3 (c.2.map (ay .m)))]⟩)) (s:=y) ?_ ?_
 ·replace h:=z;obtain⟨l,h⟩|⟨l,h⟩:=aw h
  ·obtain⟨t1,a1,h⟩:=ah h;obtain⟨u1,b1,h⟩:=ah h;obtain⟨v1,c1,h⟩:=ah h;obtain⟨w1,d1,h⟩:=ah h;obtain⟨y1,g1,h⟩:=ah h;have f:=ZA l (ZA (aY a1) (ZA b1 (ZA (aY c1) d1)));refine ZF f ?_;refine ZSG f (CW.w _ g1) ?_;cases h;exact ZL f trivial
  ·cases h;exact ZL l trivial
 ·simp only[ZC,zD];obtain⟨p,h⟩|⟨p,h⟩:=aw h
  ·obtain⟨z1,i1,h⟩:=ah h;obtain⟨q,j1,h⟩:=ah h;obtain⟨a2,k1,h⟩:=ah h;obtain⟨t,l1,h⟩:=ah h;obtain⟨u,w,h⟩:=bb h;have m1:(c.2.map (ay .m)).set (a+(B5 c.1)) (.agg [.i q.F.N,.lst .m 1 (q.F.F.map AV.i),.i q.N])=u.map (ay .m):=by rw[<-w,B7];rfl
   obtain⟨b2,p1,h⟩:=ah h;obtain⟨q1,x,h⟩:=bb h;have s1:(u.map (ay .m)).set (a+(B5 (B1 .i64 (c.1-1)))) (.agg [.i t.F.N,.lst .m 1 (t.F.F.map AV.i),.i t.N])=q1.map (ay .m):=by rw[<-x,B7];rfl
   cases h;exact ZL (ZA p (ZA (aY i1) (ZA j1 (ZA (aY k1) (ZA l1 (ZA m1 (ZA p1 s1))))))) (ZA e (ZA w.symm x.symm))
  ·cases h;exact ZL p e
def S_c(a:Nat)(b:Nat)(c:Int)(d:Int)(v:Int×List aq):St:=⟨[(0,.sl 1000000000 a b),(1,.i c),(2,.i d),(3,.fn 238 []),(8,.i v.1)],[(1000000000,.arr 3 (v.2.map (ay .m)))]⟩
def ji(v:List aq):St:=⟨[],[(1000000000,.arr 3 (v.map (ay .m)))]⟩
instance(a:Nat)(b:Nat)(c:Int)(d:Int):CL (M_c a b c d) rZ [0,1,2,3,8] [1000000000] (S_c a b c d) (qX 0 [] [1000000000] (ji)):=⟨fun g o h=>by
 have e:=ZA @S_c.eq_1 @ji.eq_1;unfold M_c at h;simp only[ZC,S_c,rZ];obtain⟨j,h⟩|⟨j,h⟩:=aw h
 ·obtain⟨p,q,h⟩:=ah h;try refine ZF j ?_
  refine aF (sh:=(fun v=>⟨[(0,.sl 1000000000 a b),(1,.i c),(2,.i d),(3,.fn 238 []),(8,.i g.1)],[(1000000000,.arr 3 (v.map (ay .m)))]⟩)) (s:=p) ?_ ?_
  ·replace h:=q;obtain⟨t,k,h⟩:=ah h;try refine ZF j ?_
   first|refine cQ (bf (aN (w_u a b c d g) k ?_)) (fun τ l=>?_)|refine dM (aN (w_u a b c d g) k ?_) (fun τ l=>?_)
   ·exact ZK (ZA @S_u.eq_1 @Wu.eq_1)
   ·cases h;try refine ZF trivial ?_
    refine⟨rfl,Shp.sub l (by decide) (by decide) ?_⟩;exact ZK @Wu.eq_1
  ·simp only[ZC,Aj];cases h;exact ZL j e
 ·cases h;exact ZL j e⟩
instance(a:Nat)(b:Nat)(c:Int)(d:Int)(g:List aq):CW (HK a b c d g) (fun(r:List aq)=>OkM A1 272 [.sl 1000000000 a b,.i c,.i d,.fn 238 []] [(1000000000,.arr 3 (g.map (ay .m)))] (.tup []) ([(1000000000,.arr 3 (r.map (ay .m)))])):=⟨fun r h=>by
 refine aU (lr:=[1000000000]) bH afd rfl rfl ?_;unfold HK at h;simp only[ZC,SG,bM];obtain⟨l,j,h⟩:=ah h;try refine ZF trivial ?_
 first|refine cQ (bf (aN CL.w j ?_)) (fun τ k=>?_)|refine dM (aN CL.w j ?_) (fun τ k=>?_)
 ·exact ZK (ZA @S_c.eq_1 @ji.eq_1)
 ·cases h;refine gR k (by decide) ?_ rfl;exact ZK (ZA @bM.eq_1 @ji.eq_1)⟩
def VJ(a:Nat)(b:Nat)(c:Int)(d:Int)(g:Int)(v:Int×List aq):St:=⟨[(0,.sl 1000000000 a b),(1,.i c),(2,.i d),(3,.i g),(10,.i v.1)],[(1000000000,.arr 3 (v.2.map (ay .m)))]⟩
instance(a:Nat)(g:Nat)(c:Int)(d:Int)(j:Int):CL (yO a g c d j) sN [0,1,2,3,10] [1000000000] (VJ a g c d j) (qX 0 [] [1000000000] (ji)):=⟨fun b o h=>by
 have e:=ZA @VJ.eq_1 @ji.eq_1;unfold yO at h;simp only[ZC,VJ,sN];obtain⟨k,h⟩|⟨k,h⟩:=aw h
 ·obtain⟨c1,u,h⟩:=ah h;obtain⟨l,v,h⟩:=ah h;obtain⟨d1,w,h⟩:=ah h;obtain⟨p,x,h⟩:=ah h;obtain⟨q,s,h⟩:=bb h;have y:(b.2.map (ay .m)).set (a+(B5 (B1 .i64 (c+b.1)))) (.agg [.i l.F.N,.lst .m 1 (l.F.F.map AV.i),.i l.N])=q.map (ay .m):=by rw[<-s,B7];rfl
  obtain⟨g1,z,h⟩:=ah h;obtain⟨a1,t,h⟩:=bb h;have b1:(q.map (ay .m)).set (a+(B5 (B1 .i64 (d+b.1)))) (.agg [.i p.F.N,.lst .m 1 (p.F.F.map AV.i),.i p.N])=a1.map (ay .m):=by rw[<-t,B7];rfl
  cases h;exact ZL (ZA k (ZA (aY u) (ZA v (ZA (aY w) (ZA x (ZA y (ZA z b1))))))) (ZA e (ZA s.symm t.symm))
 ·cases h;exact ZL k e⟩
instance(a:Nat)(b:Nat)(c:Int)(d:Int)(g:Int)(j:List aq):CW (Ca a b c d g j) (fun(r:List aq)=>OkM A1 287 [.sl 1000000000 a b,.i c,.i d,.i g,.fn 238 []] [(1000000000,.arr 3 (j.map (ay .m)))] (.tup []) ([(1000000000,.arr 3 (r.map (ay .m)))])):=⟨fun r h=>by
 refine aU (lr:=[1000000000]) bH age rfl rfl ?_;unfold Ca at h;simp only[ZC,Lc,bM];obtain⟨p,k,h⟩:=ah h;try refine ZF trivial ?_
 first|refine cQ (bf (aN CL.w k ?_)) (fun τ l=>?_)|refine dM (aN CL.w k ?_) (fun τ l=>?_)
 ·exact ZK (ZA @VJ.eq_1 @ji.eq_1)
 ·cases h;refine gR l (by decide) ?_ rfl;exact ZK (ZA @bM.eq_1 @ji.eq_1)⟩
def Tn(a:Nat)(b:Nat)(c:Int)(v:Int×Int×List aq):St:=⟨[(0,.sl 1000000000 a b),(2,.i c),(4,.fn 238 []),(10,.i v.1),(11,.i v.2.1)],[(1000000000,.arr 3 (v.2.2.map (ay .m)))]⟩
def Sm(a:Nat)(b:Nat)(c:Int)(v:Int×List aq):St:=⟨[(0,.sl 1000000000 a b),(2,.i c),(4,.fn 238 []),(10,.i v.1)],[(1000000000,.arr 3 (v.2.map (ay .m)))]⟩
instance(a:Nat)(b:Nat)(c:Int):CL (SV a b c) nc [0,2,4,10,11] [1000000000] (Tn a b c) (qX 0 [0,2,4,10] [1000000000] (Sm a b c)):=⟨fun i o h=>by
 unfold SV at h;simp only[ZC,Tn,nc];exact ZT trivial (ZA @Tn.eq_1 (ZA @Sm.eq_1 @nc.eq_1)) h⟩
instance(a:Nat)(b:Nat)(d:Int)(c:Int)(g:Int)(j:List aq):CW (AZ a b d c g j) (fun(r:List aq)=>OkM A1 277 [.sl 1000000000 a b,.i d,.i c,.i g,.fn 238 []] [(1000000000,.arr 3 (j.map (ay .m)))] (.tup []) ([(1000000000,.arr 3 (r.map (ay .m)))])):=⟨fun r h=>by
 refine aU (lr:=[1000000000]) bH aef rfl rfl ?_;unfold AZ at h;simp only[ZC,Ry,bM];exact ZT ZJ (ZA @Tn.eq_1 (ZA @Sm.eq_1 (ZA @bM.eq_1 @xZ.eq_1))) h⟩
def S_v(a:Nat)(b:Nat)(c:Int)(d:List aq)(v:Int×Int):St:=⟨[(0,.sl 1000000000 a b),(1,.i c),(4,.fn 238 []),(10,.i v.1),(11,.i v.2)],[(1000000000,.arr 3 (d.map (ay .m)))]⟩
def Yn(a:Nat)(b:Nat)(c:Int)(d:List aq)(v:Int):St:=⟨[(0,.sl 1000000000 a b),(1,.i c),(10,.i v)],[(1000000000,.arr 3 (d.map (ay .m)))]⟩
def w_v(a:Nat)(b:Nat)(c:Int)(g:Int)(j:Int)(d:List aq)(q:Nat->Nat->Int->Int->Int->List aq->Option (List aq))(x:∀(a:Nat)(b:Nat)(c:Int)(g:Int)(j:Int)(d:List aq){r:List aq},q a b c g j d=some r->OkM A1 273 [.sl 1000000000 a b,.i c,.i g,.i j,.fn 238 []] [(1000000000,.arr 3 (d.map (ay .m)))] (.tup []) ([(1000000000,.arr 3 (r.map (ay .m)))]))(p:Int×Int)(o:(Int×Int)⊕Int)(h:M_v a b c d p=some o):AWP (OkS A1) rL (qL [0,1,4,10,11] [1000000000] (S_v a b c d) (qX 0 [0,1,10] [1000000000] (Yn a b c d)) o) (S_v a b c d p):=by
 have e:=ZA @S_v.eq_1 @Yn.eq_1;unfold M_v at h;simp only[ZC,S_v,rL];obtain⟨k,h⟩|⟨k,h⟩:=aw h
 ·obtain⟨y,s,h⟩:=ah h;obtain⟨z,t,h⟩:=ah h;obtain⟨a1,u,h⟩:=ah h;obtain⟨b1,v,h⟩:=ah h;obtain⟨c1,w,h⟩:=ah h;have f:=ZA k (ZA (aY s) (ZA t (ZA (aY u) v)));refine ZF f ?_;refine ZSG f (CW.w _ w) ?_;obtain⟨l,h⟩|⟨l,h⟩:=aw h
  ·cases h;exact ZL (ZA f l) e
  ·cases h;exact ZL (ZA f l) e
 ·cases h;exact ZL k e
def RP(a:Nat)(b:Nat)(c:Int)(v:Int×List aq):St:=⟨[(0,.sl 1000000000 a b),(10,.i c),(13,.i v.1)],[(1000000000,.arr 3 (v.2.map (ay .m)))]⟩
def w_bp(a:Nat)(b:Nat)(d:Int)(g:Int)(j:Int)(k:List aq)(w:Nat->Nat->Int->Int->Int->List aq->Option (List aq))(l:Int)(i1:∀(a:Nat)(b:Nat)(d:Int)(g:Int)(j:Int)(k:List aq){r:List aq},w a b d g j k=some r->OkM A1 273 [.sl 1000000000 a b,.i d,.i g,.i j,.fn 238 []] [(1000000000,.arr 3 (k.map (ay .m)))] (.tup []) ([(1000000000,.arr 3 (r.map (ay .m)))]))(c:Int×List aq)(o:(Int×List aq)⊕(List aq))(h:JU a b l c=some o):AWP (OkS A1) rh (qL [0,10,13] [1000000000] (RP a b l) (qX 2 [] [1000000000] (ji)) o) (RP a b l c):=by
 have e:=ZA @RP.eq_1 @ji.eq_1;unfold JU at h;simp only[ZC,RP,rh];obtain⟨p,h⟩|⟨p,h⟩:=aw h
 ·obtain⟨j1,x,h⟩:=ah h;obtain⟨q,y,h⟩:=ah h;obtain⟨k1,z,h⟩:=ah h;obtain⟨s,a1,h⟩:=ah h;obtain⟨t,u,h⟩:=bb h;have b1:(c.2.map (ay .m)).set (a+(B5 c.1)) (.agg [.i q.F.N,.lst .m 1 (q.F.F.map AV.i),.i q.N])=t.map (ay .m):=by rw[<-u,B7];rfl
  obtain⟨l1,c1,h⟩:=ah h;obtain⟨d1,v,h⟩:=bb h;have g1:(t.map (ay .m)).set (a+(B5 (B1 .i64 (c.1+1)))) (.agg [.i s.F.N,.lst .m 1 (s.F.F.map AV.i),.i s.N])=d1.map (ay .m):=by rw[<-v,B7];rfl
  cases h;exact ZL (ZA p (ZA (aY x) (ZA y (ZA (aY z) (ZA a1 (ZA b1 (ZA c1 g1))))))) (ZA e (ZA u.symm v.symm))
 ·cases h;exact ZL p e
def S_w(a:Nat)(b:Nat)(c:Int)(d:List aq)(v:Int×Int):St:=⟨[(0,.sl 1000000000 a b),(2,.i c),(4,.fn 238 []),(14,.i v.1),(15,.i v.2)],[(1000000000,.arr 3 (d.map (ay .m)))]⟩
def Yh(a:Nat)(b:Nat)(c:Int)(d:List aq)(v:Int):St:=⟨[(0,.sl 1000000000 a b),(2,.i c),(14,.i v)],[(1000000000,.arr 3 (d.map (ay .m)))]⟩
def w_w(a:Nat)(b:Nat)(g:Int)(c:Int)(j:Int)(d:List aq)(q:Nat->Nat->Int->Int->Int->List aq->Option (List aq))(x:∀(a:Nat)(b:Nat)(g:Int)(c:Int)(j:Int)(d:List aq){r:List aq},q a b g c j d=some r->OkM A1 273 [.sl 1000000000 a b,.i g,.i c,.i j,.fn 238 []] [(1000000000,.arr 3 (d.map (ay .m)))] (.tup []) ([(1000000000,.arr 3 (r.map (ay .m)))]))(p:Int×Int)(o:(Int×Int)⊕Int)(h:M_w a b c d p=some o):AWP (OkS A1) sw (qL [0,2,4,14,15] [1000000000] (S_w a b c d) (qX 4 [0,2,14] [1000000000] (Yh a b c d)) o) (S_w a b c d p):=by
 have e:=ZA @S_w.eq_1 @Yh.eq_1;unfold M_w at h;simp only[ZC,S_w,sw];obtain⟨k,h⟩|⟨k,h⟩:=aw h
 ·obtain⟨y,s,h⟩:=ah h;obtain⟨z,t,h⟩:=ah h;obtain⟨a1,u,h⟩:=ah h;obtain⟨b1,v,h⟩:=ah h;obtain⟨c1,w,h⟩:=ah h;have f:=ZA k (ZA (aY s) (ZA t (ZA (aY u) v)));refine ZF f ?_;refine ZSG f (CW.w _ w) ?_;obtain⟨l,h⟩|⟨l,h⟩:=aw h
  ·cases h;exact ZL (ZA f l) e
  ·cases h;exact ZL (ZA f l) e
 ·cases h;exact ZL k e
def NL(a:Nat)(b:Nat)(c:Int)(v:Int×List aq):St:=⟨[(0,.sl 1000000000 a b),(14,.i c),(17,.i v.1)],[(1000000000,.arr 3 (v.2.map (ay .m)))]⟩
def w_bq(a:Nat)(b:Nat)(d:Int)(g:Int)(j:Int)(k:List aq)(w:Nat->Nat->Int->Int->Int->List aq->Option (List aq))(l:Int)(i1:∀(a:Nat)(b:Nat)(d:Int)(g:Int)(j:Int)(k:List aq){r:List aq},w a b d g j k=some r->OkM A1 273 [.sl 1000000000 a b,.i d,.i g,.i j,.fn 238 []] [(1000000000,.arr 3 (k.map (ay .m)))] (.tup []) ([(1000000000,.arr 3 (r.map (ay .m)))]))(c:Int×List aq)(o:(Int×List aq)⊕(List aq))(h:IH a b l c=some o):AWP (OkS A1) sZ (qL [0,14,17] [1000000000] (NL a b l) (qX 6 [] [1000000000] (ji)) o) (NL a b l c):=by
 have e:=ZA @NL.eq_1 @ji.eq_1;unfold IH at h;simp only[ZC,NL,sZ];obtain⟨p,h⟩|⟨p,h⟩:=aw h
 ·obtain⟨j1,x,h⟩:=ah h;obtain⟨q,y,h⟩:=ah h;obtain⟨k1,z,h⟩:=ah h;obtain⟨s,a1,h⟩:=ah h;obtain⟨t,u,h⟩:=bb h;have b1:(c.2.map (ay .m)).set (a+(B5 c.1)) (.agg [.i q.F.N,.lst .m 1 (q.F.F.map AV.i),.i q.N])=t.map (ay .m):=by rw[<-u,B7];rfl
  obtain⟨l1,c1,h⟩:=ah h;obtain⟨d1,v,h⟩:=bb h;have g1:(t.map (ay .m)).set (a+(B5 (B1 .i64 (c.1-1)))) (.agg [.i s.F.N,.lst .m 1 (s.F.F.map AV.i),.i s.N])=d1.map (ay .m):=by rw[<-v,B7];rfl
  cases h;exact ZL (ZA p (ZA (aY x) (ZA y (ZA (aY z) (ZA a1 (ZA b1 (ZA c1 g1))))))) (ZA e (ZA u.symm v.symm))
 ·cases h;exact ZL p e
def S_x(d:Nat)(g:Nat)(a:Int)(c:Int)(b:Int)(j:List aq)(v:Int×Int):St:=⟨[(0,.sl 1000000000 d g),(1,.i a),(2,.i c),(3,.i b),(4,.fn 238 []),(18,.i (B1 .i64 (Int.fdiv (B1 .u64 (B1 .i64 (a+b))) (2^(min (B5 1) (IntKind.bits .u64)))))),(19,.i (B1 .i64 ((B1 .i64 (Int.fdiv (B1 .u64 (B1 .i64 (a+b))) (2^(min (B5 1) (IntKind.bits .u64)))))+c))),(20,.i v.1),(21,.i v.2),(22,.i (B1 .i64 ((B1 .i64 ((B1 .i64 (Int.fdiv (B1 .u64 (B1 .i64 (a+b))) (2^(min (B5 1) (IntKind.bits .u64)))))+c))-1)))],[(1000000000,.arr 3 (j.map (ay .m)))]⟩
def Vq(d:Nat)(g:Nat)(a:Int)(c:Int)(b:Int)(j:List aq)(v:Int):St:=⟨[(0,.sl 1000000000 d g),(1,.i a),(2,.i c),(3,.i b),(4,.fn 238 []),(18,.i (B1 .i64 (Int.fdiv (B1 .u64 (B1 .i64 (a+b))) (2^(min (B5 1) (IntKind.bits .u64)))))),(19,.i (B1 .i64 ((B1 .i64 (Int.fdiv (B1 .u64 (B1 .i64 (a+b))) (2^(min (B5 1) (IntKind.bits .u64)))))+c))),(20,.i v)],[(1000000000,.arr 3 (j.map (ay .m)))]⟩
def w_x(a:Nat)(b:Nat)(c:Int)(d:Int)(g:Int)(j:List aq)(q:Nat->Nat->Int->Int->Int->List aq->Option (List aq))(x:∀(a:Nat)(b:Nat)(c:Int)(d:Int)(g:Int)(j:List aq){r:List aq},q a b c d g j=some r->OkM A1 273 [.sl 1000000000 a b,.i c,.i d,.i g,.fn 238 []] [(1000000000,.arr 3 (j.map (ay .m)))] (.tup []) ([(1000000000,.arr 3 (r.map (ay .m)))]))(p:Int×Int)(o:(Int×Int)⊕Int)(h:M_x a b c d g j p=some o):AWP (OkS A1) nT (qL [0,1,2,3,4,18,19,20,21,22] [1000000000] (S_x a b c d g j) (qX 8 [0,1,2,3,4,18,19,20] [1000000000] (Vq a b c d g j)) o) (S_x a b c d g j p):=by
 have e:=ZA @S_x.eq_1 @Vq.eq_1;unfold M_x at h;simp only[ZC,S_x,nT];obtain⟨k,h⟩|⟨k,h⟩:=aw h
 ·obtain⟨y,s,h⟩:=ah h;obtain⟨z,t,h⟩:=ah h;obtain⟨a1,u,h⟩:=ah h;obtain⟨b1,v,h⟩:=ah h;obtain⟨c1,w,h⟩:=ah h;have f:=ZA k (ZA (aY s) (ZA t (ZA (aY u) v)));refine ZF f ?_;refine ZSG f (CW.w _ w) ?_;obtain⟨l,h⟩|⟨l,h⟩:=aw h
  ·cases h;exact ZL (ZA f l) e
  ·cases h;exact ZL (ZA f l) e
 ·cases h;exact ZL k e
def wB_j(p:Nat->Nat->Int->Int->Int->List aq->Option (List aq))(q:∀(g:Nat)(j:Nat)(c:Int)(d:Int)(a:Int)(k:List aq){r:List aq},p g j c d a k=some r->OkM A1 273 [.sl 1000000000 g j,.i c,.i d,.i a,.fn 238 []] [(1000000000,.arr 3 (k.map (ay .m)))] (.tup []) ([(1000000000,.arr 3 (r.map (ay .m)))]))(g:Nat)(j:Nat)(c:Int)(d:Int)(a:Int)(k:List aq){r:List aq}(h:Vy p g j c d a k=some r):OkM A1 273 [.sl 1000000000 g j,.i c,.i d,.i a,.fn 238 []] [(1000000000,.arr 3 (k.map (ay .m)))] (.tup []) ([(1000000000,.arr 3 (r.map (ay .m)))]):=by
 have e:=@bM.eq_1;refine aU (lr:=[1000000000]) bH abi rfl rfl ?_;unfold Vy at h;simp only[ZC,LU,bM];obtain⟨t,h⟩|⟨t,h⟩:=aw h
 ·obtain⟨i1,j1,h⟩:=ah h;try refine ZF t ?_
  refine aF (bf (aN (w_v g j c d a k p q) j1 ?_)) ?_
  ·exact ZK (ZA @S_v.eq_1 @Yn.eq_1)
  ·simp only[ZC,Yn,yN];obtain⟨j2,k1,h⟩:=ah h;try refine ZF t ?_
   refine aF (bf (aN (w_bp g j c d a k p i1 q) k1 ?_)) ?_
   ·exact ZK (ZA @RP.eq_1 @ji.eq_1)
   ·simp only[ZC,ji,zx];cases h;exact ZL t e
 ·obtain⟨u,h⟩|⟨u,h⟩:=aw h
  ·obtain⟨l1,m1,h⟩:=ah h;have f:=ZA t u;try refine ZF f ?_
   refine aF (bf (aN (w_w g j c d a k p q) m1 ?_)) ?_
   ·exact ZK (ZA @S_w.eq_1 @Yh.eq_1)
   ·simp only[ZC,Yh,Af];obtain⟨k2,p1,h⟩:=ah h;try refine ZF f ?_
    refine aF (bf (aN (w_bq g j c d a k p l1 q) p1 ?_)) ?_
    ·exact ZK (ZA @NL.eq_1 @ji.eq_1)
    ·simp only[ZC,ji,Ao];cases h;exact ZL f e
  ·obtain⟨q1,s1,h⟩:=ah h;have f:=ZA t u;try refine ZF f ?_
   refine aF (sh:=(fun v=>⟨[(0,.sl 1000000000 g j),(1,.i c),(2,.i d),(3,.i a),(4,.fn 238 []),(18,.i (B1 .i64 (Int.fdiv (B1 .u64 (B1 .i64 (c+a))) (2^(min (B5 1) (IntKind.bits .u64)))))),(19,.i (B1 .i64 ((B1 .i64 (Int.fdiv (B1 .u64 (B1 .i64 (c+a))) (2^(min (B5 1) (IntKind.bits .u64)))))+d))),(20,.i v.1),(21,.i v.2)],[(1000000000,.arr 3 (k.map (ay .m)))]⟩)) (s:=q1) ?_ ?_
   ·replace h:=s1;obtain⟨w,h⟩|⟨w,h⟩:=aw h
    ·cases h;exact ZL (ZA f w) trivial
    ·cases h;exact ZL (ZA f w) trivial
   ·simp only[ZC,yh];obtain⟨l,t1,h⟩:=ah h;try refine ZF f ?_
    refine aF (bf (aN (w_x g j c d a k p q) t1 ?_)) ?_
    ·exact ZK (ZA @S_x.eq_1 @Vq.eq_1)
    ·simp only[ZC,Vq,vf];obtain⟨d1,u1,h⟩:=ah h;try refine ZF f ?_
     refine aF (sh:=(fun v=>⟨[(0,.sl 1000000000 g j),(1,.i c),(3,.i a),(4,.fn 238 []),(18,.i (B1 .i64 (Int.fdiv (B1 .u64 (B1 .i64 (c+a))) (2^(min (B5 1) (IntKind.bits .u64)))))),(20,.i l),(24,.i (B1 .i64 ((B1 .i64 ((B1 .i64 (Int.fdiv (B1 .u64 (B1 .i64 (c+a))) (2^(min (B5 1) (IntKind.bits .u64)))))+d))-l)))],[(1000000000,.arr 3 (v.map (ay .m)))]⟩)) (s:=d1) ?_ ?_
     ·replace h:=u1;obtain⟨v1,w1,h⟩:=ah h;try refine ZF f ?_
      refine aF (sh:=(fun v=>⟨[(0,.sl 1000000000 g j),(1,.i c),(2,.i d),(3,.i a),(4,.fn 238 []),(18,.i (B1 .i64 (Int.fdiv (B1 .u64 (B1 .i64 (c+a))) (2^(min (B5 1) (IntKind.bits .u64)))))),(20,.i l),(24,.i (B1 .i64 ((B1 .i64 ((B1 .i64 (Int.fdiv (B1 .u64 (B1 .i64 (c+a))) (2^(min (B5 1) (IntKind.bits .u64)))))+d))-l))),(185,.b v)],[(1000000000,.arr 3 (k.map (ay .m)))]⟩)) (s:=v1) ?_ ?_
      ·replace h:=w1;obtain⟨x,h⟩|⟨x,h⟩:=aw h
       ·cases h;exact ZL (ZA f x) trivial
       ·cases h;exact ZL (ZA f x) trivial
      ·simp only[ZC,uT];obtain⟨y,h⟩|⟨y,h⟩:=aw h
       ·obtain⟨l2,y1,h⟩:=ah h;have f:=ZA f y;refine ZF f ?_;refine ZWG f (CW.w _ y1) [1000000000] [] ?_;cases h;exact ZL f trivial
       ·cases h;exact ZL (ZA f y) trivial
     ·simp only[ZC,uW];obtain⟨g1,z1,h⟩:=ah h;try refine ZF f ?_
      refine aF (sh:=(fun v=>⟨[(0,.sl 1000000000 g j),(3,.i a),(4,.fn 238 []),(18,.i (B1 .i64 (Int.fdiv (B1 .u64 (B1 .i64 (c+a))) (2^(min (B5 1) (IntKind.bits .u64)))))),(24,.i (B1 .i64 ((B1 .i64 ((B1 .i64 (Int.fdiv (B1 .u64 (B1 .i64 (c+a))) (2^(min (B5 1) (IntKind.bits .u64)))))+d))-l)))],[(1000000000,.arr 3 (v.map (ay .m)))]⟩)) (s:=g1) ?_ ?_
      ·replace h:=z1;obtain⟨a2,b2,h⟩:=ah h;try refine ZF f ?_
       refine aF (sh:=(fun v=>⟨[(0,.sl 1000000000 g j),(1,.i c),(3,.i a),(4,.fn 238 []),(18,.i (B1 .i64 (Int.fdiv (B1 .u64 (B1 .i64 (c+a))) (2^(min (B5 1) (IntKind.bits .u64)))))),(20,.i l),(24,.i (B1 .i64 ((B1 .i64 ((B1 .i64 (Int.fdiv (B1 .u64 (B1 .i64 (c+a))) (2^(min (B5 1) (IntKind.bits .u64)))))+d))-l))),(199,.b v)],[(1000000000,.arr 3 (d1.map (ay .m)))]⟩)) (s:=a2) ?_ ?_
       ·replace h:=b2;obtain⟨z,h⟩|⟨z,h⟩:=aw h
        ·cases h;exact ZL (ZA f z) trivial
        ·cases h;exact ZL (ZA f z) trivial
       ·simp only[ZC,uI];obtain⟨a1,h⟩|⟨a1,h⟩:=aw h
        ·obtain⟨m2,c2,h⟩:=ah h;have f:=ZA f a1;refine ZF f ?_;refine ZWG f (q _ _ _ _ _ _ c2) [1000000000] [] ?_;cases h;exact ZL f trivial
        ·cases h;exact ZL (ZA f a1) trivial
      ·simp only[ZC,va];obtain⟨d2,g2,h⟩:=ah h;try refine ZF f ?_
       refine aF (sh:=(fun v=>⟨[(0,.sl 1000000000 g j),(3,.i a),(4,.fn 238 []),(18,.i (B1 .i64 (Int.fdiv (B1 .u64 (B1 .i64 (c+a))) (2^(min (B5 1) (IntKind.bits .u64)))))),(24,.i (B1 .i64 ((B1 .i64 ((B1 .i64 (Int.fdiv (B1 .u64 (B1 .i64 (c+a))) (2^(min (B5 1) (IntKind.bits .u64)))))+d))-l))),(213,.b v)],[(1000000000,.arr 3 (g1.map (ay .m)))]⟩)) (s:=d2) ?_ ?_
       ·replace h:=g2;obtain⟨b1,h⟩|⟨b1,h⟩:=aw h
        ·cases h;exact ZL (ZA f b1) trivial
        ·cases h;exact ZL (ZA f b1) trivial
       ·simp only[ZC,uR];obtain⟨c1,h⟩|⟨c1,h⟩:=aw h
        ·obtain⟨p2,i2,h⟩:=ah h;have f:=ZA f c1;refine ZF f ?_;refine ZWG f (q _ _ _ _ _ _ i2) [1000000000] [] ?_;cases h;exact ZL f e
        ·cases h;exact ZL (ZA f c1) e
theorem w_j:∀(n:Nat)(a:Nat)(b:Nat)(c:Int)(d:Int)(g:Int)(j:List aq){r:List aq}(_:M_j n a b c d g j=some r),OkM A1 273 [.sl 1000000000 a b,.i c,.i d,.i g,.fn 238 []] [(1000000000,.arr 3 (j.map (ay .m)))] ((fun(r:List aq)=>.tup []) r) ((fun(r:List aq)=>[(1000000000,.arr 3 (r.map (ay .m)))]) r)
 |0,a,b,c,d,g,j,_,h=>by cases h
 |n+1,a,b,c,d,g,j,_,h=>wB_j (M_j n) (w_j n) a b c d g j h
def Ty(a:Int)(v:Nat×Int×Int×List aq):St:=⟨[(0,.sl 1000000000 0 v.1),(1,.i a),(2,.fn 238 []),(6,.i 20),(7,.i v.2.1),(8,.i v.2.2.1)],[(1000000000,.arr 3 (v.2.2.2.map (ay .m)))]⟩
def EQ(a:Int)(v:Nat×Int×List aq):St:=⟨[(0,.sl 1000000000 0 v.1),(1,.i a),(2,.fn 238 []),(6,.i 20),(7,.i v.2.1)],[(1000000000,.arr 3 (v.2.2.map (ay .m)))]⟩
instance(b:Int):CL (Jk b) mY [0,1,2,6,7,8] [1000000000] (Ty b) (qX 0 [0,1,2,6,7] [1000000000] (EQ b)):=⟨fun c o h=>by
 unfold Jk at h;simp only[ZC,Ty,mY];exact ZT trivial (ZA @Ty.eq_1 (ZA @EQ.eq_1 @mY.eq_1)) h⟩
def Vc(a:Int)(b:Nat×Int×List aq)(c:Int×List aq)(v:Int×Int×List aq):St:=⟨[(0,.sl 1000000000 0 b.1),(1,.i a),(2,.fn 238 []),(6,.i c.1),(7,.i v.1),(8,.i v.2.1)],[(1000000000,.arr 3 (v.2.2.map (ay .m)))]⟩
def FL(a:Int)(b:Nat×Int×List aq)(c:Int×List aq)(v:Int×List aq):St:=⟨[(0,.sl 1000000000 0 b.1),(1,.i a),(2,.fn 238 []),(6,.i c.1),(7,.i v.1)],[(1000000000,.arr 3 (v.2.map (ay .m)))]⟩
instance(b:Int)(c:Nat×Int×List aq)(d:Int×List aq):CL (HJ b c d) qo [0,1,2,6,7,8] [1000000000] (Vc b c d) (qX 4 [0,1,2,6,7] [1000000000] (FL b c d)):=⟨fun g o h=>by
 have e:=ZA @Vc.eq_1 @FL.eq_1;unfold HJ at h;simp only[ZC,Vc,qo];obtain⟨a,h⟩|⟨a,h⟩:=aw h
 ·obtain⟨j,i,h⟩:=ah h;refine ZF a ?_;refine ZWG a (w_j N0 _ _ _ _ _ _ i) [1000000000] [] ?_;cases h;exact ZL a e
 ·cases h;exact ZL a e⟩
def TE(a:Int)(b:Nat×Int×List aq)(v:Int×List aq):St:=⟨[(0,.sl 1000000000 0 b.1),(1,.i a),(2,.fn 238 []),(6,.i v.1)],[(1000000000,.arr 3 (v.2.map (ay .m)))]⟩
instance(b:Int)(c:Nat×Int×List aq):CL (Ro b c) rY [0,1,2,6] [1000000000] (TE b c) (qX 2 [] [1000000000] (ji)):=⟨fun d o h=>by
 have e:=ZA @TE.eq_1 @ji.eq_1;unfold Ro at h;simp only[ZC,TE,rY];obtain⟨a,h⟩|⟨a,h⟩:=aw h
 ·obtain⟨k,i,h⟩:=ah h;try refine ZF a ?_
  refine aF (bf (aN CL.w i ?_)) ?_
  ·exact ZK (ZA @Vc.eq_1 @FL.eq_1)
  ·simp only[ZC,FL,yE];obtain⟨g,h⟩|⟨g,h⟩:=aw h
   ·obtain⟨l,j,h⟩:=ah h;have f:=ZA a g;refine ZF f ?_;refine ZWG f (w_j N0 _ _ _ _ _ _ j) [1000000000] [] ?_;cases h;exact ZL f e
   ·cases h;exact ZL (ZA a g) e
 ·cases h;exact ZL a e⟩
instance(a:Int)(b:List aq):CW (VP a b) (fun(r:List aq)=>OkM A1 260 [.sl 1000000000 0 b.length,.i a,.fn 238 []] [(1000000000,.arr 3 (b.map (ay .m)))] (.tup []) ([(1000000000,.arr 3 (r.map (ay .m)))])):=⟨fun r h=>by
 refine aU (lr:=[1000000000]) bH afu rfl rfl ?_;unfold VP at h;simp only[ZC,Lp,bM];obtain⟨c,j,h⟩:=ah h;try refine ZF trivial ?_
 refine aF (bf (aN CL.w j ?_)) ?_
 ·exact ZK (ZA @Ty.eq_1 @EQ.eq_1)
 ·simp only[ZC,EQ,zK];obtain⟨l,k,h⟩:=ah h;refine ZF trivial ?_;refine ZWG trivial (CW.w _ k) [1000000000] [] ?_;obtain⟨p,d,h⟩:=ah h;try refine ZF trivial ?_
  first|refine cQ (bf (aN CL.w d ?_)) (fun τ g=>?_)|refine dM (aN CL.w d ?_) (fun τ g=>?_)
  ·exact ZK (ZA @TE.eq_1 @ji.eq_1)
  ·cases h;refine gR g (by decide) ?_ rfl;exact ZK (ZA @bM.eq_1 @ji.eq_1)⟩
instance(a:List aq):CW (Nl a) (fun(r:List aq)=>OkM A1 237 [.sl 1000000000 0 a.length,.fn 238 []] [(1000000000,.arr 3 (a.map (ay .m)))] (.tup []) ([(1000000000,.arr 3 (r.map (ay .m)))])):=⟨fun r h=>by
 refine aU (lr:=[1000000000]) bH adv rfl rfl ?_;unfold Nl at h;simp only[ZC,OK,bM];exact ZT trivial @bM.eq_1 h⟩
instance(a:List aq):CW (UT a) (fun(r:Nat×Nat×List aq)=>OkM A1 211 [.sl 1000000000 0 a.length] [(1000000000,.arr 3 (a.map (ay .m)))] (.sl 1000000000 r.1 r.2.1) ([(1000000000,.arr 3 (r.2.2.map (ay .m)))])):=⟨fun r h=>by
 refine aU (lr:=[1000000000]) bH aev rfl rfl ?_;unfold UT at h;simp only[ZC,OP,V10];exact ZT trivial @V10.eq_1 h⟩
instance(d:af)(j:List aA)(a:aO):CW (QR d j a) (fun(r:aq×Bool)=>OkM A1 156 [(ar .o d),.lst .o 2 (j.map (aJ .o)),(aR .o a)] [] (.tup [.agg [.i (((r.1).F).N),.lst .m 1 ((((r.1).F).F).map AV.i),.i ((r.1).N)],.b r.2]) ([])):=⟨fun r h=>by
 refine aU (lr:=[]) bH aep rfl rfl ?_;unfold QR at h;simp only[ZC,Nt,wn];obtain⟨k,l,h⟩:=ah h;refine ZF trivial ?_;refine ZWG trivial (CW.w _ l) [6] [1500006] ?_;obtain⟨p,q,h⟩:=ah h;try refine ZF trivial ?_
 refine aF (sh:=(fun v=>⟨[(6,.pt 6 0 0),(8,.sl 8 0 k.2.length),(23,.b v)],[(6,.var (.agg [.i 0,.lst .u 1 [],.i 0])),(8,.arr 3 (k.2.map (ay .m)))]⟩)) (s:=p) ?_ ?_
 ·replace h:=q;obtain⟨g,h⟩|⟨g,h⟩:=aw h
  ·cases h;exact ZL g trivial
  ·cases h;exact ZL g trivial
 ·simp only[ZC,Ai];obtain⟨c,h⟩|⟨c,h⟩:=aw h
  ·cases h;exact ZL c @wn.eq_1
  ·obtain⟨y,t,h⟩:=ah h;refine ZF c ?_;refine ZWG c (CW.w _ t) [1000000000] [] ?_;obtain⟨a1,w,h⟩:=ah h;obtain⟨b1,x,h⟩:=ah h;cases h;exact ZL (ZA c (ZA (aY w) x)) @wn.eq_1⟩
def VM(g:af)(a:Bool×List aq)(c:Bool×Int×aq×aq)(d:aq)(v:Bool×Int×aq×aq):St:=⟨[(3,.pt 3 0 0),(6,.pt 6 0 0),(7,.pt 7 0 0),(9,.sl 9 0 a.2.length),(11,.pt 11 0 0),(12,.pt 12 0 0),(13,.b v.1),(15,.pt 15 0 0),(34,.sl 9 0 a.2.length),(35,.i (a.2.length:Int)),(36,.i c.2.1),(44,.sl 9 (B5 (B1 .i64 (c.2.1+1))) (a.2.length-(B5 (B1 .i64 (c.2.1+1))))),(45,.i (((a.2.length-(B5 (B1 .i64 (c.2.1+1)))):Nat):Int)),(46,.i v.2.1)],[(3,.var (ar .o g)),(6,.var (.agg [.i 0,.lst .u 1 [],.i 0])),(7,.var (.agg [.i 0,.lst .u 1 [],.i 0])),(9,.arr 3 (a.2.map (ay .m))),(11,.var (ay .m v.2.2.1)),(12,.var (ay .m v.2.2.2)),(15,.var (ay .m d))]⟩
def FX(c:af)(a:Bool×List aq)(d:Bool×Int×aq×aq)(v:Bool×aq×aq):St:=⟨[(3,.pt 3 0 0),(6,.pt 6 0 0),(7,.pt 7 0 0),(9,.sl 9 0 a.2.length),(11,.pt 11 0 0),(12,.pt 12 0 0),(13,.b v.1),(34,.sl 9 0 a.2.length),(35,.i (a.2.length:Int)),(36,.i d.2.1)],[(3,.var (ar .o c)),(6,.var (.agg [.i 0,.lst .u 1 [],.i 0])),(7,.var (.agg [.i 0,.lst .u 1 [],.i 0])),(9,.arr 3 (a.2.map (ay .m))),(11,.var (ay .m v.2.1)),(12,.var (ay .m v.2.2))]⟩
instance(k:af)(c:Bool×List aq)(d:Bool×Int×aq×aq)(j:aq):CL (GM k c d j) tc [3,6,7,9,11,12,13,15,34,35,36,44,45,46] [3,6,7,9,11,12,15] (VM k c d j) (qX 2 [3,6,7,9,11,12,13,34,35,36] [3,6,7,9,11,12] (FX k c d)):=⟨fun a o h=>by
 have e:=ZA @VM.eq_1 @FX.eq_1;unfold GM at h;simp only[ZC,VM,tc];obtain⟨x,h⟩|⟨x,h⟩:=aw h
 ·obtain⟨w2,j1,h⟩:=ah h;obtain⟨x2,k1,h⟩:=ah h;obtain⟨y2,l1,h⟩:=ah h;have f:=ZA x (ZA (aY j1) k1);refine ZF f ?_;refine ZSG f (CW.w _ l1) ?_;obtain⟨y,h⟩|⟨y,h⟩:=aw h
  ·cases h;exact ZL (ZA f y) e
  ·obtain⟨g,m1,h⟩:=ah h;have f:=ZA f y;try refine ZF f ?_
   refine aF (sh:=(fun v=>⟨[(3,.pt 3 0 0),(6,.pt 6 0 0),(7,.pt 7 0 0),(9,.sl 9 0 c.2.length),(11,.pt 11 0 0),(12,.pt 12 0 0),(13,.b a.1),(15,.pt 15 0 0),(18,.pt 18 0 0),(19,.pt 19 0 0),(34,.sl 9 0 c.2.length),(35,.i (c.2.length:Int)),(36,.i d.2.1),(44,.sl 9 (B5 (B1 .i64 (d.2.1+1))) (c.2.length-(B5 (B1 .i64 (d.2.1+1))))),(45,.i (((c.2.length-(B5 (B1 .i64 (d.2.1+1)))):Nat):Int)),(46,.i a.2.1)],[(3,.var (ar .o k)),(6,.var (.agg [.i 0,.lst .u 1 [],.i 0])),(7,.var (.agg [.i 0,.lst .u 1 [],.i 0])),(9,.arr 3 (c.2.map (ay .m))),(11,.var (ay .m a.2.2.1)),(12,.var (ay .m a.2.2.2)),(15,.var (ay .m j)),(18,.var (ay .m v.1)),(19,.var (ay .m v.2))]⟩)) (s:=g) ?_ ?_
   ·replace h:=m1;obtain⟨z2,p1,h⟩:=ah h;refine ZF f ?_;refine ZSG f (CW.w _ p1) ?_;obtain⟨a3,q1,h⟩:=ah h;refine ZF f ?_;refine ZSG f (CW.w _ q1) ?_;obtain⟨a1,h⟩|⟨a1,h⟩:=aw h
    ·cases h;exact ZL (ZA f a1) trivial
    ·cases h;exact ZL (ZA f a1) trivial
   ·simp only[ZC,zW];obtain⟨b3,s1,h⟩:=ah h;refine ZF f ?_;refine ZSG f (CW.w _ s1) ?_;obtain⟨c3,t1,h⟩:=ah h;refine ZF f ?_;refine ZSG f (CW.w _ t1) ?_;obtain⟨d3,u1,h⟩:=ah h;refine ZF f ?_;refine ZSG f (CW.w _ u1) ?_;obtain⟨g3,v1,h⟩:=ah h;refine ZF f ?_;refine ZSG f (CW.w _ v1) ?_;obtain⟨w1,y1,h⟩:=ah h;refine ZF f ?_;refine ZSG f (CW.w _ y1) ?_;obtain⟨q,p,h⟩:=bb h;have z1:Row.arr 1 [(.i w1:AV),(.i 0:AV)]=Row.arr 1 (q.map AV.i):=by rw[<-p];rfl
    have l:q.length=2:=by rw[<-p];rfl
    have a2:sub (q.map AV.i) 0 2=q.map AV.i:=uC _ (by simp[<-p]);obtain⟨b2,c2,h⟩:=ah h;have f:=ZA f (ZA z1 (ZA l a2));refine ZF f ?_;refine ZSG f (CW.w _ c2) ?_;obtain⟨d2,g2,h⟩:=ah h;try refine ZF f ?_
    refine aF (sh:=(fun v=>⟨[(3,.pt 3 0 0),(6,.pt 6 0 0),(7,.pt 7 0 0),(9,.sl 9 0 c.2.length),(11,.pt 11 0 0),(12,.pt 12 0 0),(13,.b a.1),(15,.pt 15 0 0),(18,.pt 18 0 0),(19,.pt 19 0 0),(20,.i v),(34,.sl 9 0 c.2.length),(35,.i (c.2.length:Int)),(36,.i d.2.1),(44,.sl 9 (B5 (B1 .i64 (d.2.1+1))) (c.2.length-(B5 (B1 .i64 (d.2.1+1))))),(45,.i (((c.2.length-(B5 (B1 .i64 (d.2.1+1)))):Nat):Int)),(46,.i a.2.1)],[(3,.var (ar .o k)),(6,.var (.agg [.i 0,.lst .u 1 [],.i 0])),(7,.var (.agg [.i 0,.lst .u 1 [],.i 0])),(9,.arr 3 (c.2.map (ay .m))),(11,.var (ay .m a.2.2.1)),(12,.var (ay .m a.2.2.2)),(15,.var (ay .m j)),(18,.var (ay .m g.1)),(19,.var (ay .m g.2))]⟩)) (s:=d2) ?_ ?_
    ·replace h:=g2;obtain⟨i2,j2,h⟩:=ah h;try refine ZF f ?_
     refine aF (sh:=(fun v=>⟨[(3,.pt 3 0 0),(6,.pt 6 0 0),(7,.pt 7 0 0),(9,.sl 9 0 c.2.length),(11,.pt 11 0 0),(12,.pt 12 0 0),(13,.b a.1),(15,.pt 15 0 0),(18,.pt 18 0 0),(19,.pt 19 0 0),(20,.i b2),(34,.sl 9 0 c.2.length),(35,.i (c.2.length:Int)),(36,.i d.2.1),(44,.sl 9 (B5 (B1 .i64 (d.2.1+1))) (c.2.length-(B5 (B1 .i64 (d.2.1+1))))),(45,.i (((c.2.length-(B5 (B1 .i64 (d.2.1+1)))):Nat):Int)),(46,.i a.2.1),(85,.b v)],[(3,.var (ar .o k)),(6,.var (.agg [.i 0,.lst .u 1 [],.i 0])),(7,.var (.agg [.i 0,.lst .u 1 [],.i 0])),(9,.arr 3 (c.2.map (ay .m))),(11,.var (ay .m a.2.2.1)),(12,.var (ay .m a.2.2.2)),(15,.var (ay .m j)),(18,.var (ay .m g.1)),(19,.var (ay .m g.2))]⟩)) (s:=i2) ?_ ?_
     ·replace h:=j2;obtain⟨b1,h⟩|⟨b1,h⟩:=aw h
      ·cases h;exact ZL (ZA f b1) (ZA p.symm l)
      ·cases h;exact ZL (ZA f b1) (ZA p.symm l)
     ·simp only[ZC,Az];obtain⟨c1,h⟩|⟨c1,h⟩:=aw h
      ·obtain⟨k2,l2,h⟩:=ah h;have f:=ZA f c1;refine ZF f ?_;refine ZSG f (CW.w _ l2) ?_;obtain⟨m2,p2,h⟩:=ah h;refine ZF f ?_;refine ZSG f (CW.w _ p2) ?_;obtain⟨t,w,h⟩:=bb h;have q2:Row.arr 1 [(.i k2:AV),(.i m2:AV)]=Row.arr 1 (t.map AV.i):=by rw[<-w];rfl
       have i1:t.length=2:=by rw[<-w];rfl
       have s2:sub (t.map AV.i) 0 2=t.map AV.i:=uC _ (by simp[<-w]);obtain⟨i3,t2,h⟩:=ah h;have f:=ZA f (ZA q2 (ZA i1 s2));refine ZF f ?_;refine ZSG f (CW.w _ t2) ?_;cases h;exact ZL f (ZA w.symm (ZA l i1))
      ·cases h;exact ZL (ZA f c1) l
    ·simp only[ZC,zH];obtain⟨u2,v2,h⟩:=ah h;try refine ZF f ?_
     refine aF (sh:=(fun v=>⟨[(3,.pt 3 0 0),(6,.pt 6 0 0),(7,.pt 7 0 0),(9,.sl 9 0 c.2.length),(11,.pt 11 0 0),(12,.pt 12 0 0),(13,.b a.1),(15,.pt 15 0 0),(18,.pt 18 0 0),(19,.pt 19 0 0),(34,.sl 9 0 c.2.length),(35,.i (c.2.length:Int)),(36,.i d.2.1),(44,.sl 9 (B5 (B1 .i64 (d.2.1+1))) (c.2.length-(B5 (B1 .i64 (d.2.1+1))))),(45,.i (((c.2.length-(B5 (B1 .i64 (d.2.1+1)))):Nat):Int)),(46,.i a.2.1),(105,.b v)],[(3,.var (ar .o k)),(6,.var (.agg [.i 0,.lst .u 1 [],.i 0])),(7,.var (.agg [.i 0,.lst .u 1 [],.i 0])),(9,.arr 3 (c.2.map (ay .m))),(11,.var (ay .m a.2.2.1)),(12,.var (ay .m a.2.2.2)),(15,.var (ay .m j)),(18,.var (ay .m g.1)),(19,.var (ay .m g.2))]⟩)) (s:=u2) ?_ ?_
     ·replace h:=v2;obtain⟨d1,h⟩|⟨d1,h⟩:=aw h
      ·cases h;exact ZL (ZA f d1) l
      ·cases h;exact ZL (ZA f d1) l
     ·simp only[ZC,AB];obtain⟨g1,h⟩|⟨g1,h⟩:=aw h
      ·cases h;exact ZL (ZA f g1) (ZA e l)
      ·cases h;exact ZL (ZA f g1) (ZA e l)
 ·cases h;exact ZL x e⟩
def Uu(c:af)(a:Bool×List aq)(v:Bool×Int×aq×aq):St:=⟨[(3,.pt 3 0 0),(6,.pt 6 0 0),(7,.pt 7 0 0),(9,.sl 9 0 a.2.length),(11,.pt 11 0 0),(12,.pt 12 0 0),(13,.b v.1),(34,.sl 9 0 a.2.length),(35,.i (a.2.length:Int)),(36,.i v.2.1)],[(3,.var (ar .o c)),(6,.var (.agg [.i 0,.lst .u 1 [],.i 0])),(7,.var (.agg [.i 0,.lst .u 1 [],.i 0])),(9,.arr 3 (a.2.map (ay .m))),(11,.var (ay .m v.2.2.1)),(12,.var (ay .m v.2.2.2))]⟩
def Ee(v:Bool×aq×aq):St:=⟨[(6,.pt 6 0 0),(7,.pt 7 0 0),(11,.pt 11 0 0),(12,.pt 12 0 0),(13,.b v.1)],[(6,.var (.agg [.i 0,.lst .u 1 [],.i 0])),(7,.var (.agg [.i 0,.lst .u 1 [],.i 0])),(11,.var (ay .m v.2.1)),(12,.var (ay .m v.2.2))]⟩
instance(c:af)(a:Bool×List aq):CL (BX c a) rS [3,6,7,9,11,12,13,34,35,36] [3,6,7,9,11,12] (Uu c a) (qX 0 [6,7,11,12,13] [6,7,11,12] (Ee)):=⟨fun d o h=>by
 have e:=ZA @Uu.eq_1 @Ee.eq_1;unfold BX at h;simp only[ZC,Uu,rS];obtain⟨g,h⟩|⟨g,h⟩:=aw h
 ·obtain⟨p,q,h⟩:=ah h;try refine ZF g ?_
  refine aF (sh:=(fun v=>⟨[(3,.pt 3 0 0),(6,.pt 6 0 0),(7,.pt 7 0 0),(9,.sl 9 0 a.2.length),(11,.pt 11 0 0),(12,.pt 12 0 0),(13,.b v.1),(34,.sl 9 0 a.2.length),(35,.i (a.2.length:Int)),(36,.i d.2.1)],[(3,.var (ar .o c)),(6,.var (.agg [.i 0,.lst .u 1 [],.i 0])),(7,.var (.agg [.i 0,.lst .u 1 [],.i 0])),(9,.arr 3 (a.2.map (ay .m))),(11,.var (ay .m v.2.1)),(12,.var (ay .m v.2.2))]⟩)) (s:=p) ?_ ?_
  ·replace h:=q;obtain⟨y,t,h⟩:=ah h;obtain⟨j,w,h⟩:=ah h;obtain⟨a1,x,h⟩:=ah h;obtain⟨b1,k,h⟩:=ah h;try refine ZF (ZA g (ZA (aY t) (ZA w (aY x)))) ?_
   first|refine cQ (bf (aN CL.w k ?_)) (fun τ l=>?_)|refine dM (aN CL.w k ?_) (fun τ l=>?_)
   ·exact ZK (ZA @VM.eq_1 @FX.eq_1)
   ·cases h;try refine ZF trivial ?_
    refine⟨rfl,Shp.sub l (by decide) (by decide) ?_⟩;exact ZK @FX.eq_1
  ·simp only[ZC,xX];cases h;exact ZL g e
 ·cases h;exact ZL g e⟩
instance(c:af)(g:List aA)(a:aO):CW (OZ c g a) (fun(r:aq×aq×Bool)=>OkM A1 124 [(ar .o c),.lst .o 2 (g.map (aJ .o)),(aR .o a)] [] (.tup [.agg [.i (((r.1).F).N),.lst .m 1 ((((r.1).F).F).map AV.i),.i ((r.1).N)],.agg [.i (((r.2.1).F).N),.lst .m 1 ((((r.2.1).F).F).map AV.i),.i ((r.2.1).N)],.b r.2.2]) ([])):=⟨fun r h=>by
 refine aU (lr:=[]) bH aan rfl rfl ?_;unfold OZ at h;simp only[ZC,Qj,vT];obtain⟨j,k,h⟩:=ah h;refine ZF trivial ?_;refine ZWG trivial (CW.w _ k) [6] [2600006] ?_;obtain⟨d,h⟩|⟨d,h⟩:=aw h
 ·cases h;exact ZL d @vT.eq_1
 ·obtain⟨p,l,h⟩:=ah h;try refine ZF d ?_
  refine aF (bf (aN CL.w l ?_)) ?_
  ·exact ZK (ZA @Uu.eq_1 @Ee.eq_1)
  ·simp only[ZC,Ee,zr];cases h;exact ZL d @vT.eq_1⟩
theorem w_dw(a:ae)(p1Z0:af)(p2Z0:ae){r:Bool}(h:Sr a p1Z0 p2Z0=some r):Ok A1 212 [(ai .o a),.bp .o (ar .o p1Z0) 0,.bp .o (ai .o p2Z0) 0] (.b r):=ZO m212 (Sr.eq_1 _ _ _) trivial (ZA @aK.eq_1 @A212.eq_1) h
instance(a:ae)(p1Z0:af)(p2Z0:ae):CW (Sr a p1Z0 p2Z0) (fun(r:Bool)=>Ok A1 212 [(ai .o a),.bp .o (ar .o p1Z0) 0,.bp .o (ai .o p2Z0) 0] (.b r)):=⟨fun r h=>w_dw a p1Z0 p2Z0 h⟩
instance(c:af)(d:List ae)(a:ae):CW (th c d a) (fun(r:Bool)=>Ok A1 159 [(ar .o c),.lst .o 10 (d.map (ai .o)),(ai .o a)] (.b r)):=⟨fun r h=>by
 refine bn bH m159 rfl ?_;unfold th at h;simp only[ZC,A159,dt,ca];obtain⟨j,g,h⟩:=ah h;refine ZF trivial ?_;refine ZSG trivial (VV _ _ g 212 [.bp .o (.agg [.lst .o 1 (c.N.map AV.z),.lst .o 4 (c.F.map (aC .o))]) 0,.bp .o (.agg [.i a.Id,.i a.W,.i a.N.N,.lst .o 1 (a.N.F.map AV.i),.i a.P.N,.i a.P.F,.i a.F.N,.lst .o 1 (a.F.F.map AV.i),.i a.L.N,.i a.L.F]) 0] ⟨fun ρ k=>by simp only[VS1,VS2,VS3,VS4,VS5,VS6,VT1,VT2,bB,bz,decide_true,decide_false,B0,A9,dS,dV,dN,ne_eq,not_false_eq_true,B2,B3,true_and,false_and,A6,A7,↓reduceIte,reduceCtorEq,A2,A8,A3,B4],by simp[aP,AV.ments]⟩ (fun _ _ h=>w_dw _ _ _ h)) ?_;cases h;exact ZL trivial @dt.eq_1⟩
instance(c:aD)(a:ae)(d:af)(g:List ae):CW (aek c a d g) (fun(r:Bool×ae×af×List ae)=>OkM A1 158 [(bD .o c),.pt 1000000000 0 0,.pt 1000000001 0 0,.pt 1000000002 0 0] [(1000000000,.var (ai .m a)),(1000000001,.var (ar .o d)),(1000000002,.var (.lst .o 10 (g.map (ai .o))))] (.b r.1) ([(1000000000,.var (.agg [.i ((r.2.1).Id),.i ((r.2.1).W),.i (((r.2.1).N).N),.lst .m 1 ((((r.2.1).N).F).map AV.i),.i (((r.2.1).P).N),.i (((r.2.1).P).F),.i (((r.2.1).F).N),.lst .m 1 ((((r.2.1).F).F).map AV.i),.i (((r.2.1).L).N),.i (((r.2.1).L).F)])),(1000000001,.var (.agg [.lst .o 1 (((r.2.2.1).N).map AV.z),.lst .o 4 (((r.2.2.1).F).map (aC .o))])),(1000000002,.var (.lst .o 10 (r.2.2.2.map (ai .o))))])):=⟨fun r h=>by
 refine aU (lr:=[1000000000,1000000001,1000000002]) bH afz rfl rfl ?_;unfold aek at h;simp only[ZC,KJ,An];exact ZT trivial @An.eq_1 h⟩
def S_o(a:Int)(v:Int×af×List ae×ae):St:=⟨[(0,.i a),(1,.fn 158 [.pt 1000000002 0 0,.pt 1000000000 0 0,.pt 1000000001 0 0]),(4,.pt 4 0 0),(6,.i v.1)],[(4,.var (.agg [.i 0,.i 0])),(1000000000,.var (ar .o v.2.1)),(1000000001,.var (.lst .o 10 (v.2.2.1.map (ai .o)))),(1000000002,.var (ai .m v.2.2.2))]⟩
def AP(v:af×List ae×ae):St:=⟨[(4,.pt 4 0 0)],[(4,.var (.agg [.i 0,.i 0])),(1000000000,.var (ar .o v.1)),(1000000001,.var (.lst .o 10 (v.2.1.map (ai .o)))),(1000000002,.var (ai .m v.2.2))]⟩
instance(c:Int):CL (M_o c) sU [0,1,4,6] [4,1000000000,1000000001,1000000002] (S_o c) (qS (qX 0 [4] [4,1000000000,1000000001,1000000002] (AP)) (qM iR [1000000000,1000000001,1000000002] (fun(r:aD×Bool×af×List ae×ae)=>.tup [.agg [.i ((r.1).N),.i ((r.1).F)],.b r.2.1]) (fun(r:aD×Bool×af×List ae×ae)=>[(1000000000,.var (.agg [.lst .o 1 (((r.2.2.1).N).map AV.z),.lst .o 4 (((r.2.2.1).F).map (aC .o))])),(1000000001,.var (.lst .o 10 (r.2.2.2.1.map (ai .o)))),(1000000002,.var (.agg [.i ((r.2.2.2.2).Id),.i ((r.2.2.2.2).W),.i (((r.2.2.2.2).N).N),.lst .m 1 ((((r.2.2.2.2).N).F).map AV.i),.i (((r.2.2.2.2).P).N),.i (((r.2.2.2.2).P).F),.i (((r.2.2.2.2).F).N),.lst .m 1 ((((r.2.2.2.2).F).F).map AV.i),.i (((r.2.2.2.2).L).N),.i (((r.2.2.2.2).L).F)]))]))):=⟨fun g o h=>by
 have e:=ZA @S_o.eq_1 @AP.eq_1;unfold M_o at h;simp only[ZC,S_o,sU];obtain⟨a,h⟩|⟨a,h⟩:=aw h
 ·obtain⟨k,j,h⟩:=ah h;refine ZF a ?_;refine ZWG a (CW.w _ j) [1000000000,1000000001,1000000002] [] ?_;obtain⟨d,h⟩|⟨d,h⟩:=aw h
  ·cases h;exact ZL (ZA a d) @iR.eq_1
  ·cases h;exact ZL (ZA a d) e
 ·cases h;exact ZL a e⟩
instance(c:Int)(d:af)(g:List ae)(a:ae):CW (Cm c d g a) (fun(r:aD×Bool×af×List ae×ae)=>OkM A1 157 [.i c,.fn 158 [.pt 1000000002 0 0,.pt 1000000000 0 0,.pt 1000000001 0 0]] [(1000000000,.var (ar .o d)),(1000000001,.var (.lst .o 10 (g.map (ai .o)))),(1000000002,.var (ai .m a))] (.tup [.agg [.i ((r.1).N),.i ((r.1).F)],.b r.2.1]) ([(1000000000,.var (.agg [.lst .o 1 (((r.2.2.1).N).map AV.z),.lst .o 4 (((r.2.2.1).F).map (aC .o))])),(1000000001,.var (.lst .o 10 (r.2.2.2.1.map (ai .o)))),(1000000002,.var (.agg [.i ((r.2.2.2.2).Id),.i ((r.2.2.2.2).W),.i (((r.2.2.2.2).N).N),.lst .m 1 ((((r.2.2.2.2).N).F).map AV.i),.i (((r.2.2.2.2).P).N),.i (((r.2.2.2.2).P).F),.i (((r.2.2.2.2).F).N),.lst .m 1 ((((r.2.2.2.2).F).F).map AV.i),.i (((r.2.2.2.2).L).N),.i (((r.2.2.2.2).L).F)]))])):=⟨fun r h=>by
 refine aU (lr:=[1000000000,1000000001,1000000002]) bH abg rfl rfl ?_;unfold Cm at h;simp only[ZC,RQ,iR];obtain⟨j,k,h⟩:=ah h;try refine ZF trivial ?_
 refine cm (o:=j) (cT sf (aN CL.w k ?_)) (fun p hv=>?_) (fun q hv e τ hne hq=>?_)
 ·exact ZK (ZA @S_o.eq_1 @AP.eq_1)
 ·subst hv;simp only[] at h;simp only[ZC,AP,Ad];cases h;exact ZL trivial @iR.eq_1
 ·subst hv;simp only[] at h;obtain⟨rfl,l⟩:=hq;cases h;exact l⟩
instance(c:aD)(a:ae)(d:af)(g:List ae):CW (agt c a d g) (fun(r:Bool×ae×af×List ae)=>OkM A1 160 [(bD .o c),.pt 1000000000 0 0,.pt 1000000001 0 0,.pt 1000000002 0 0] [(1000000000,.var (ai .m a)),(1000000001,.var (ar .o d)),(1000000002,.var (.lst .o 10 (g.map (ai .o))))] (.b r.1) ([(1000000000,.var (.agg [.i ((r.2.1).Id),.i ((r.2.1).W),.i (((r.2.1).N).N),.lst .m 1 ((((r.2.1).N).F).map AV.i),.i (((r.2.1).P).N),.i (((r.2.1).P).F),.i (((r.2.1).F).N),.lst .m 1 ((((r.2.1).F).F).map AV.i),.i (((r.2.1).L).N),.i (((r.2.1).L).F)])),(1000000001,.var (.agg [.lst .o 1 (((r.2.2.1).N).map AV.z),.lst .o 4 (((r.2.2.1).F).map (aC .o))])),(1000000002,.var (.lst .o 10 (r.2.2.2.map (ai .o))))])):=⟨fun r h=>by
 refine aU (lr:=[1000000000,1000000001,1000000002]) bH adc rfl rfl ?_;unfold agt at h;simp only[ZC,MN,An];exact ZT trivial @An.eq_1 h⟩
def UH(a:Int)(v:Int×af×List ae×ae):St:=⟨[(0,.i a),(1,.fn 160 [.pt 1000000002 0 0,.pt 1000000000 0 0,.pt 1000000001 0 0]),(4,.pt 4 0 0),(6,.i v.1)],[(4,.var (.agg [.i 0,.i 0])),(1000000000,.var (ar .o v.2.1)),(1000000001,.var (.lst .o 10 (v.2.2.1.map (ai .o)))),(1000000002,.var (ai .m v.2.2.2))]⟩
instance(c:Int):CL (Cx c) qw [0,1,4,6] [4,1000000000,1000000001,1000000002] (UH c) (qS (qX 0 [4] [4,1000000000,1000000001,1000000002] (AP)) (qM iR [1000000000,1000000001,1000000002] (fun(r:aD×Bool×af×List ae×ae)=>.tup [.agg [.i ((r.1).N),.i ((r.1).F)],.b r.2.1]) (fun(r:aD×Bool×af×List ae×ae)=>[(1000000000,.var (.agg [.lst .o 1 (((r.2.2.1).N).map AV.z),.lst .o 4 (((r.2.2.1).F).map (aC .o))])),(1000000001,.var (.lst .o 10 (r.2.2.2.1.map (ai .o)))),(1000000002,.var (.agg [.i ((r.2.2.2.2).Id),.i ((r.2.2.2.2).W),.i (((r.2.2.2.2).N).N),.lst .m 1 ((((r.2.2.2.2).N).F).map AV.i),.i (((r.2.2.2.2).P).N),.i (((r.2.2.2.2).P).F),.i (((r.2.2.2.2).F).N),.lst .m 1 ((((r.2.2.2.2).F).F).map AV.i),.i (((r.2.2.2.2).L).N),.i (((r.2.2.2.2).L).F)]))]))):=⟨fun g o h=>by
 have e:=ZA @UH.eq_1 @AP.eq_1;unfold Cx at h;simp only[ZC,UH,qw];obtain⟨a,h⟩|⟨a,h⟩:=aw h
 ·obtain⟨k,j,h⟩:=ah h;refine ZF a ?_;refine ZWG a (CW.w _ j) [1000000000,1000000001,1000000002] [] ?_;obtain⟨d,h⟩|⟨d,h⟩:=aw h
  ·cases h;exact ZL (ZA a d) @iR.eq_1
  ·cases h;exact ZL (ZA a d) e
 ·cases h;exact ZL a e⟩
instance(c:Int)(d:af)(g:List ae)(a:ae):CW (BJ c d g a) (fun(r:aD×Bool×af×List ae×ae)=>OkM A1 157 [.i c,.fn 160 [.pt 1000000002 0 0,.pt 1000000000 0 0,.pt 1000000001 0 0]] [(1000000000,.var (ar .o d)),(1000000001,.var (.lst .o 10 (g.map (ai .o)))),(1000000002,.var (ai .m a))] (.tup [.agg [.i ((r.1).N),.i ((r.1).F)],.b r.2.1]) ([(1000000000,.var (.agg [.lst .o 1 (((r.2.2.1).N).map AV.z),.lst .o 4 (((r.2.2.1).F).map (aC .o))])),(1000000001,.var (.lst .o 10 (r.2.2.2.1.map (ai .o)))),(1000000002,.var (.agg [.i ((r.2.2.2.2).Id),.i ((r.2.2.2.2).W),.i (((r.2.2.2.2).N).N),.lst .m 1 ((((r.2.2.2.2).N).F).map AV.i),.i (((r.2.2.2.2).P).N),.i (((r.2.2.2.2).P).F),.i (((r.2.2.2.2).F).N),.lst .m 1 ((((r.2.2.2.2).F).F).map AV.i),.i (((r.2.2.2.2).L).N),.i (((r.2.2.2.2).L).F)]))])):=⟨fun r h=>by
 refine aU (lr:=[1000000000,1000000001,1000000002]) bH aga rfl rfl ?_;unfold BJ at h;simp only[ZC,LV,iR];obtain⟨j,k,h⟩:=ah h;try refine ZF trivial ?_
 refine cm (o:=j) (cT sf (aN CL.w k ?_)) (fun p hv=>?_) (fun q hv e τ hne hq=>?_)
 ·exact ZK (ZA @UH.eq_1 @AP.eq_1)
 ·subst hv;simp only[] at h;simp only[ZC,AP,yQ];cases h;exact ZL trivial @iR.eq_1
 ·subst hv;simp only[] at h;obtain⟨rfl,l⟩:=hq;cases h;exact l⟩
def S_k(b:af)(c:List aA)(d:List ae)(a:aO)(v:ae):St:=⟨[(1,.lst .o 2 (c.map (aJ .o))),(4,.pt 4 0 0),(6,.pt 6 0 0),(7,.pt 7 0 0),(8,.pt 8 0 0),(10,.pt 10 0 0)],[(4,.var (ar .o b)),(6,.var (.lst .o 10 (d.map (ai .o)))),(7,.var (aR .o a)),(8,.var (.agg [.i 0,.i 0,.i 0,.lst .u 1 [],.i 0,.i 0,.i 0,.lst .u 1 [],.i 0,.i 0])),(10,.var (ai .m v))]⟩
theorem w_k(c:af)(d:List aA)(b:List ae)(g:aO)(a:ae)(o:ae⊕ae)(h:M_k b a=some o):AWP (OkS A1) wz (qL [1,4,6,7,8,10] [4,6,7,8,10] (S_k c d b g) (qX 0 [1,4,6,7,8,10] [4,6,7,8,10] (S_k c d b g)) o) (S_k c d b g a):=by
 have e:=ZA @S_k.eq_1 @S_k.eq_1;unfold M_k at h;simp only[ZC,S_k,wz];obtain⟨m,l,h⟩:=ah h;refine ZF trivial ?_;refine ZSG trivial (VV _ _ l 155 [.bp .o (.agg [.i a.Id,.i a.W,.i a.N.N,.lst .o 1 (a.N.F.map AV.i),.i a.P.N,.i a.P.F,.i a.F.N,.lst .o 1 (a.F.F.map AV.i),.i a.L.N,.i a.L.F]) 0] ⟨fun ρ k=>by simp only[VS1,VS2,VS3,VS4,VS5,VS6,VT1,VT2,bB,bz,decide_true,decide_false,B0,A9,dS,dV,dN,ne_eq,not_false_eq_true,B2,B3,true_and,false_and,A6,A7,↓reduceIte,reduceCtorEq,A2,A8,A3,B4],by simp[aP,AV.ments]⟩ (fun _ _ h=>w_dv _ _ h)) ?_;obtain⟨j,h⟩|⟨j,h⟩:=aw h
 ·cases h;exact ZL j e
 ·cases h;exact ZL j e
instance(j:af)(q:List aA)(l:List ae)(c:aO):CW (Tr j q l c) (fun(r:ae×Bool)=>OkM A1 85 [(ar .o j),.lst .o 2 (q.map (aJ .o)),.lst .o 10 (l.map (ai .o)),(aR .o c)] [] (.tup [.agg [.i ((r.1).Id),.i ((r.1).W),.i (((r.1).N).N),.lst .m 1 ((((r.1).N).F).map AV.i),.i (((r.1).P).N),.i (((r.1).P).F),.i (((r.1).F).N),.lst .m 1 ((((r.1).F).F).map AV.i),.i (((r.1).L).N),.i (((r.1).L).F)],.b r.2]) ([])):=⟨fun r h=>by
 refine aU (lr:=[]) bH ahx rfl rfl ?_;unfold Tr at h;simp only[ZC,aaf,xQ];obtain⟨d,x,h⟩:=ah h;try refine ZF trivial ?_
 refine aF (bf (aN (w_k j q l c) x ?_)) ?_
 ·exact ZK (ZA @S_k.eq_1 @S_k.eq_1)
 ·simp only[ZC,S_k,Fc];obtain⟨j1,y,h⟩:=ah h;refine ZF trivial ?_;refine ZWG trivial (CW.w _ y) [] [] ?_;obtain⟨p,a1,h⟩:=ah h;try refine ZF trivial ?_
  refine aF (sh:=(fun v=>⟨[(4,.pt 4 0 0),(6,.pt 6 0 0),(7,.pt 7 0 0),(8,.pt 8 0 0),(10,.pt 10 0 0),(11,.pt 11 0 0),(12,.b v.1),(13,.pt 13 0 0)],[(4,.var (ar .o j)),(6,.var (.lst .o 10 (l.map (ai .o)))),(7,.var (aR .o c)),(8,.var (.agg [.i 0,.i 0,.i 0,.lst .u 1 [],.i 0,.i 0,.i 0,.lst .u 1 [],.i 0,.i 0])),(10,.var (ai .m d)),(11,.var (ay .m v.2.1)),(13,.var (ay .m v.2.2))]⟩)) (s:=p) ?_ ?_
  ·replace h:=a1;obtain⟨k,h⟩|⟨k,h⟩:=aw h
   ·obtain⟨k1,b1,h⟩:=ah h;refine ZF k ?_;refine ZWG k (CW.w _ b1) [] [] ?_;cases h;exact ZL k trivial
   ·cases h;exact ZL k trivial
  ·simp only[ZC,Fs];obtain⟨g,h⟩|⟨g,h⟩:=aw h
   ·cases h;exact ZL g @xQ.eq_1
   ·obtain⟨a,c1,h⟩:=ah h;refine ZF g ?_;refine ZWG g (CW.w _ c1) [1000000000,1000000001,1000000002] [] ?_;obtain⟨d1,g1,h⟩:=ah h;try refine ZF g ?_
    refine aF (sh:=(fun v=>⟨[(4,.pt 4 0 0),(6,.pt 6 0 0),(8,.pt 8 0 0),(10,.pt 10 0 0),(12,.b a.2.1),(13,.pt 13 0 0),(64,.b v)],[(4,.var (ar .o a.2.2.1)),(6,.var (.lst .o 10 (a.2.2.2.1.map (ai .o)))),(8,.var (.agg [.i 0,.i 0,.i 0,.lst .u 1 [],.i 0,.i 0,.i 0,.lst .u 1 [],.i 0,.i 0])),(10,.var (.agg [.i ((a.2.2.2.2).Id),.i ((c).W),.i (((a.2.2.2.2).N).N),.lst .m 1 ((((a.2.2.2.2).N).F).map AV.i),.i ((a.1).N),.i ((a.1).F),.i (((a.2.2.2.2).F).N),.lst .m 1 ((((a.2.2.2.2).F).F).map AV.i),.i (((a.2.2.2.2).L).N),.i (((a.2.2.2.2).L).F)])),(13,.var (ay .m p.2.2))]⟩)) (s:=d1) ?_ ?_
    ·replace h:=g1;obtain⟨t,h⟩|⟨t,h⟩:=aw h
     ·cases h;exact ZL (ZA g t) trivial
     ·cases h;exact ZL (ZA g t) trivial
    ·simp only[ZC,Fh];obtain⟨w,h⟩|⟨w,h⟩:=aw h
     ·cases h;exact ZL (ZA g w) @xQ.eq_1
     ·obtain⟨l1,i1,h⟩:=ah h;have f:=ZA g w;refine ZF f ?_;refine ZWG f (CW.w _ i1) [1000000000,1000000001,1000000002] [] ?_;cases h;exact ZL f @xQ.eq_1⟩
instance(a:aj):CW (LQ a) (fun(r:aj)=>Ok A1 161 [(ax .o a)] (.agg [.i r.N,.lst .u 1 (r.F.map AV.i)])):=⟨fun r h=>ZO m161 (LQ.eq_1 _) trivial (ZA @dL.eq_1 @A161.eq_1) h⟩
def XH(a:List ae)(v:Int×List ae):St:=⟨[(3,.sl 3 0 v.2.length),(7,.lst .o 10 (a.map (ai .o))),(8,.i (a.length:Int)),(9,.i v.1)],[(3,.arr 10 (v.2.map (ai .u)))]⟩
def Rx(v:List ae):St:=⟨[(3,.sl 3 0 v.length)],[(3,.arr 10 (v.map (ai .u)))]⟩
instance(d:List ae):CL (Ii d) EA [3,7,8,9] [3] (XH d) (qX 0 [3] [3] (Rx)):=⟨fun b o h=>by
 unfold Ii at h;simp only[ZC,XH,EA];exact ZT ZJB (ZA @XH.eq_1 (ZA @Rx.eq_1 @EA.eq_1)) h⟩
instance(a:List ae):CW (wT a) (fun(r:List ae)=>Ok A1 86 [.lst .o 10 (a.map (ai .o))] (.lst .u 10 (r.map (ai .u)))):=⟨fun r h=>ZO m86 (wT.eq_1 _) ZJ (ZA @XH.eq_1 (ZA @Rx.eq_1 (ZA @Zz.eq_1 (ZA @V10.eq_1 @A86.eq_1)))) h⟩
def S_z(c:List ae)(a:ae×Bool)(b:List ae)(v:Int):St:=⟨[(2,.lst .o 10 (c.map (ai .o))),(11,.pt 11 0 0),(13,.sl 13 0 b.length),(14,.i v)],[(11,.var (ai .m a.1)),(13,.arr 10 (b.map (ai .u)))]⟩
def Wj(a:ae×Bool)(b:List ae)(v:Int):St:=⟨[(11,.pt 11 0 0),(13,.sl 13 0 b.length),(14,.i v)],[(11,.var (ai .m a.1)),(13,.arr 10 (b.map (ai .u)))]⟩
instance(c:List ae)(a:ae×Bool):CX (M_z c a) Fy [2,11,13,14] [11,13] (List ae) (fun d=>(S_z c a d)) (fun d=>(qX 0 [11,13,14] [11,13] (Wj a d))):=⟨fun d i o h=>by
 unfold M_z at h;simp only[ZC,S_z,Fy];exact ZT trivial (ZA @S_z.eq_1 (ZA @Wj.eq_1 @Fy.eq_1)) h⟩
instance(j:af)(q:List aA)(k:List ae)(c:aO):CW (MU j q k c) (fun(r:List ae×Int×Bool)=>Ok A1 22 [(ar .o j),.lst .o 2 (q.map (aJ .o)),.lst .o 10 (k.map (ai .o)),(aR .o c)] (.tup [.lst .u 10 (r.1.map (ai .u)),.i r.2.1,.b r.2.2])):=⟨fun r h=>by
 refine bn bH m22 rfl ?_;unfold MU at h;simp only[ZC,A22,kr,ca];obtain⟨d1,g1,h⟩:=ah h;try refine ZF trivial ?_
 refine aF (sh:=(fun v=>⟨[(1,.lst .o 2 (q.map (aJ .o))),(2,.lst .o 10 (k.map (ai .o))),(4,.pt 4 0 0),(7,.pt 7 0 0),(23,.b v)],[(4,.var (ar .o j)),(7,.var (aR .o c))]⟩)) (s:=d1) ?_ ?_
 ·replace h:=g1;obtain⟨s1,i1,h⟩:=ah h;refine ZF trivial ?_;refine ZSG trivial (CW.w _ i1) ?_;obtain⟨t,h⟩|⟨t,h⟩:=aw h
  ·cases h;exact ZL t trivial
  ·cases h;exact ZL t trivial
 ·simp only[ZC,Ys];obtain⟨d,h⟩|⟨d,h⟩:=aw h
  ·cases h;exact ZL d @kr.eq_1
  ·obtain⟨a,j1,h⟩:=ah h;refine ZF d ?_;refine ZWG d (CW.w _ j1) [] [] ?_;obtain⟨l,h⟩|⟨l,h⟩:=aw h
   ·cases h;exact ZL (ZA d l) @kr.eq_1
   ·obtain⟨w,k1,h⟩:=ah h;have f:=ZA d l;refine ZF f ?_;refine ZUG f (CW.w _ k1) ?_;obtain⟨t1,l1,h⟩:=ah h;try refine ZF f ?_
    refine aF (bf (aN (CX.w w) l1 ?_)) ?_
    ·exact ZK (ZA @S_z.eq_1 @Wj.eq_1)
    ·simp only[ZC,Wj,ZD];obtain⟨p,g,h⟩:=bb h;have y:Row.arr 10 [(.agg [.i ((a.1).Id),.i ((a.1).W),.i (((a.1).N).N),.lst .m 1 ((((a.1).N).F).map AV.i),.i (((a.1).P).N),.i (((a.1).P).F),.i (((a.1).F).N),.lst .m 1 ((((a.1).F).F).map AV.i),.i (((a.1).L).N),.i (((a.1).L).F)]:AV)]=Row.arr 10 (p.map (ai .m)):=by rw[<-g];rfl
     have x:p.length=1:=by rw[<-g];rfl
     have a1:sub (p.map (ai .m)) 0 1=p.map (ai .m):=uC _ (by simp[<-g]);obtain⟨b1,m1,h⟩:=ah h;have f:=ZA f (ZA y (ZA x a1));refine ZF f ?_;refine⟨fun _=>trivial,?_⟩;refine ZUG f (CW.w _ m1) ?_;obtain⟨p1,c1,h⟩:=ah h;have q1:p1.length=w.length+b1.length:=xV c1;refine ZF f ?_;refine nW (by simp only[VS1,VS2,VS3,VS4,VS5,VS6,VT1,VT2,bB,bz,decide_true,decide_false,B0,A9,dS,dV,dN,ne_eq,not_false_eq_true,B2,B3,true_and,false_and,A6,A7,↓reduceIte,reduceCtorEq,A2,A8,A3,B4,d,l,y,x,a1];exact(VU ahs ((ai .u)) (xs:=w) (ys:=b1) (by simp[<-g]) (by simp[<-g]) c1)) (by simp[VS1,VS2,VS3,VS4,VS5,VS6,VT1,VT2]) (by first|exact PS [0] [5800000] rfl (by decide+kernel) (by simp[VS1,VS2,VS3,VS4,VS5,VS6,VT1,VT2])|simp[VS1,VS2,VS3,VS4,VS5,VS6,VT1,VT2]) ?_;refine ZG ?_;cases h;exact ZL f (ZA @kr.eq_1 (ZA g.symm (ZA q1 x)))⟩
def XJ(b:af)(c:Nat)(d:Nat)(a:ae)(g:Int)(j:Int)(k:List ae)(v:Int×ae):St:=⟨[(1,.sl 1000000000 c d),(3,.i g),(4,.i j),(5,.pt 5 0 0),(7,.pt 7 0 0),(10,.pt 10 0 0),(12,.pt 12 0 0),(13,.i v.1)],[(5,.var (ar .m b)),(7,.var (ai .m a)),(10,.var (.agg [.i 0,.i 0,.i 0,.lst .u 1 [],.i 0,.i 0,.i 0,.lst .u 1 [],.i 0,.i 0])),(12,.var (.agg [.i ((v.2).Id),.i ((v.2).W),.i (((v.2).N).N),.lst .m 1 ((((v.2).N).F).map AV.i),.i (((v.2).P).N),.i (((v.2).P).F),.i (((v.2).F).N),.lst .u 1 ((((v.2).F).F).map AV.i),.i (((v.2).L).N),.i (((v.2).L).F)])),(1000000000,.arr 10 (k.map (ai .m)))]⟩
def FQ(b:af)(c:Nat)(d:Nat)(a:ae)(g:Int)(j:List ae)(v:ae):St:=⟨[(1,.sl 1000000000 c d),(4,.i g),(5,.pt 5 0 0),(7,.pt 7 0 0),(10,.pt 10 0 0),(12,.pt 12 0 0)],[(5,.var (ar .m b)),(7,.var (ai .m a)),(10,.var (.agg [.i 0,.i 0,.i 0,.lst .u 1 [],.i 0,.i 0,.i 0,.lst .u 1 [],.i 0,.i 0])),(12,.var (.agg [.i ((v).Id),.i ((v).W),.i (((v).N).N),.lst .m 1 ((((v).N).F).map AV.i),.i (((v).P).N),.i (((v).P).F),.i (((v).F).N),.lst .u 1 ((((v).F).F).map AV.i),.i (((v).L).N),.i (((v).L).F)])),(1000000000,.arr 10 (j.map (ai .m)))]⟩
instance(g:af)(a:Nat)(c:Nat)(j:ae)(k:Int)(d:List ae):CX (M_cg g a c j k d) pZ [1,3,4,5,7,10,12,13] [5,7,10,12,1000000000] (Int) (fun l=>(XJ g a c j k l d)) (fun l=>(qS (qX 0 [1,4,5,7,10,12] [5,7,10,12,1000000000] (FQ g a c j l d)) (qM gB [1000000000] (fun(r:ae×Bool×List ae)=>.tup [.agg [.i ((r.1).Id),.i ((r.1).W),.i (((r.1).N).N),.lst .m 1 ((((r.1).N).F).map AV.i),.i (((r.1).P).N),.i (((r.1).P).F),.i (((r.1).F).N),.lst .m 1 ((((r.1).F).F).map AV.i),.i (((r.1).L).N),.i (((r.1).L).F)],.b r.2.1]) (fun(r:ae×Bool×List ae)=>[(1000000000,.arr 10 (r.2.2.map (ai .m)))])))):=⟨fun l s o h=>by
 unfold M_cg M_q at h;simp only[ZC,XJ,pZ];exact ZT ZJB (ZA @XJ.eq_1 (ZA @FQ.eq_1 (ZA @gB.eq_1 @pZ.eq_1))) h⟩
def XM(a:af)(b:Nat)(c:Nat)(d:Int)(g:List ae)(v:Int×ae):St:=⟨[(1,.sl 1000000000 b c),(4,.i d),(5,.pt 5 0 0),(7,.pt 7 0 0),(10,.pt 10 0 0),(14,.i v.1)],[(5,.var (ar .m a)),(7,.var (ai .m v.2)),(10,.var (.agg [.i 0,.i 0,.i 0,.lst .u 1 [],.i 0,.i 0,.i 0,.lst .u 1 [],.i 0,.i 0])),(1000000000,.arr 10 (g.map (ai .m)))]⟩
def EG(a:List ae)(v:ae):St:=⟨[(7,.pt 7 0 0),(10,.pt 10 0 0)],[(7,.var (ai .m v)),(10,.var (.agg [.i 0,.i 0,.i 0,.lst .u 1 [],.i 0,.i 0,.i 0,.lst .u 1 [],.i 0,.i 0])),(1000000000,.arr 10 (a.map (ai .m)))]⟩
instance(g:af)(c:Nat)(d:Nat)(j:Int)(a:List ae):CL (M_ch g c d j a) qg [1,4,5,7,10,14] [5,7,10,1000000000] (XM g c d j a) (qS (qX 2 [7,10] [7,10,1000000000] (EG a)) (qM gB [1000000000] (fun(r:ae×Bool×List ae)=>.tup [.agg [.i ((r.1).Id),.i ((r.1).W),.i (((r.1).N).N),.lst .m 1 ((((r.1).N).F).map AV.i),.i (((r.1).P).N),.i (((r.1).P).F),.i (((r.1).F).N),.lst .m 1 ((((r.1).F).F).map AV.i),.i (((r.1).L).N),.i (((r.1).L).F)],.b r.2.1]) (fun(r:ae×Bool×List ae)=>[(1000000000,.arr 10 (r.2.2.map (ai .m)))]))):=⟨fun p o h=>by
 unfold M_ch M_r at h;simp only[ZC,XM,qg];exact ZT ZJB (ZA @XM.eq_1 (ZA @EG.eq_1 (ZA @gB.eq_1 @qg.eq_1))) h⟩
instance(c:af)(d:Nat)(g:Nat)(a:ae)(p:Int)(j:Int)(k:List ae):CW (M_is c d g a p j k) (fun(r:ae×Bool×List ae)=>OkM A1 92 [(ar .m c),.sl 1000000000 d g,(ai .m a),.i p,.i j] [(1000000000,.arr 10 (k.map (ai .m)))] (.tup [.agg [.i ((r.1).Id),.i ((r.1).W),.i (((r.1).N).N),.lst .m 1 ((((r.1).N).F).map AV.i),.i (((r.1).P).N),.i (((r.1).P).F),.i (((r.1).F).N),.lst .m 1 ((((r.1).F).F).map AV.i),.i (((r.1).L).N),.i (((r.1).L).F)],.b r.2.1]) ([(1000000000,.arr 10 (r.2.2.map (ai .m)))])):=⟨fun r h=>by
 refine aU (lr:=[1000000000]) bH ajz rfl rfl ?_;unfold M_is yI at h;rw[show M_q=M_cg from rfl,show M_r=M_ch from rfl]at h;simp only[ZC,ZZ,gB];obtain⟨q,s,h⟩:=ah h;try refine ZF trivial ?_
 refine cm (o:=q) (cT sf (aN (CX.w j) s ?_)) (fun x hv=>?_) (fun y hv e τ hne hq=>?_)
 ·exact ZK (ZA @XJ.eq_1 @FQ.eq_1)
 ·subst hv;simp only[] at h;simp only[ZC,FQ,DK];obtain⟨l,h⟩|⟨l,h⟩:=aw h
  ·cases h;exact ZL l @gB.eq_1
  ·obtain⟨t,u,h⟩:=ah h;try refine ZF l ?_
   refine cm (o:=t) (cT sf (aN CL.w u ?_)) (fun a1 hv=>?_) (fun b1 hv e τ hne hq=>?_)
   ·exact ZK (ZA @XM.eq_1 @EG.eq_1)
   ·subst hv;simp only[] at h;simp only[ZC,EG,Fz];cases h;exact ZL l @gB.eq_1
   ·subst hv;simp only[] at h;obtain⟨rfl,v⟩:=hq;cases h;exact v
 ·subst hv;simp only[] at h;obtain⟨rfl,w⟩:=hq;cases h;exact w⟩
def RF(b:af)(c:Nat)(d:Nat)(g:Nat)(j:Nat)(a:aO)(k:List aA)(l:List ae)(v:Int×ae):St:=⟨[(1,.sl 1000000000 c d),(2,.sl 1000000001 g j),(4,.pt 4 0 0),(7,.pt 7 0 0),(11,.sl 11 0 0),(12,.pt 12 0 0),(13,.i v.1)],[(4,.var (ar .m b)),(7,.var (aR .o a)),(11,.arr 10 []),(12,.var (ai .m v.2)),(1000000000,.arr 2 (k.map (aJ .u))),(1000000001,.arr 10 (l.map (ai .m)))]⟩
def FS(b:af)(c:Nat)(d:Nat)(g:Nat)(j:Nat)(a:aO)(k:List aA)(l:List ae)(v:ae):St:=⟨[(1,.sl 1000000000 c d),(2,.sl 1000000001 g j),(4,.pt 4 0 0),(7,.pt 7 0 0),(11,.sl 11 0 0),(12,.pt 12 0 0)],[(4,.var (ar .m b)),(7,.var (aR .o a)),(11,.arr 10 []),(12,.var (ai .m v)),(1000000000,.arr 2 (k.map (aJ .u))),(1000000001,.arr 10 (l.map (ai .m)))]⟩
theorem w_bl(d:af)(l:Nat)(p:Nat)(g:Nat)(j:Nat)(c:aO)(q:List aA)(k:List ae)(a:Int×ae)(o:(Int×ae)⊕ae)(h:M_bl g j k a=some o):AWP (OkS A1) wL (qL [1,2,4,7,11,12,13] [4,7,11,12,1000000000,1000000001] (RF d l p g j c q k) (qX 0 [1,2,4,7,11,12] [4,7,11,12,1000000000,1000000001] (FS d l p g j c q k)) o) (RF d l p g j c q k a):=by
 have e:=ZA @RF.eq_1 @FS.eq_1;unfold M_bl M_d at h;simp only[ZC,RF,wL];obtain⟨x,y,h⟩:=ah h;try refine ZF trivial ?_
 refine aF (sh:=(fun v=>⟨[(1,.sl 1000000000 l p),(2,.sl 1000000001 g j),(4,.pt 4 0 0),(7,.pt 7 0 0),(11,.sl 11 0 0),(12,.pt 12 0 0),(13,.i a.1),(50,.b v)],[(4,.var (ar .m d)),(7,.var (aR .o c)),(11,.arr 10 []),(12,.var (ai .m a.2)),(1000000000,.arr 2 (q.map (aJ .u))),(1000000001,.arr 10 (k.map (ai .m)))]⟩)) (s:=x) ?_ ?_
 ·replace h:=y;obtain⟨t,h⟩|⟨t,h⟩:=aw h
  ·obtain⟨c1,a1,h⟩:=ah h;obtain⟨d1,b1,h⟩:=ah h;cases h;exact ZL (ZA t (ZA (aY a1) b1)) trivial
  ·cases h;exact ZL t trivial
 ·simp only[ZC,DS];obtain⟨w,h⟩|⟨w,h⟩:=aw h
  ·cases h;exact ZL w e
  ·cases h;exact ZL w e
instance(d:af)(j:Nat)(k:Nat)(l:Nat)(p:Nat)(a:aO)(t:List aA)(q:List ae):CW (Ta d j k l p a t q) (fun(r:Int×Bool×List ae×List aA×List ae)=>OkM A1 23 [(ar .m d),.sl 1000000000 j k,.sl 1000000001 l p,(aR .o a)] [(1000000000,.arr 2 (t.map (aJ .u))),(1000000001,.arr 10 (q.map (ai .m)))] (.tup [.sl 8 0 r.2.2.1.length,.i r.1,.b r.2.1]) ([(8,.arr 10 (r.2.2.1.map (ai .u))),(1000000000,.arr 2 (r.2.2.2.1.map (aJ .u))),(1000000001,.arr 10 (r.2.2.2.2.map (ai .m)))])):=⟨fun r h=>by
 have e:=@kr.eq_1;refine aU (lr:=[8,1000000000,1000000001]) bH ajb rfl rfl ?_;unfold Ta AR at h;rw[show M_d=M_bl from rfl,show yI=M_is from rfl]at h;simp only[ZC,ZN,kr];obtain⟨d1,g1,h⟩:=ah h;try refine ZF trivial ?_
 refine aF (sh:=(fun v=>⟨[(1,.sl 1000000000 j k),(2,.sl 1000000001 l p),(4,.pt 4 0 0),(7,.pt 7 0 0),(11,.sl 11 0 0),(32,.b v)],[(4,.var (ar .m d)),(7,.var (aR .o a)),(11,.arr 10 []),(1000000000,.arr 2 (t.map (aJ .u))),(1000000001,.arr 10 (q.map (ai .m)))]⟩)) (s:=d1) ?_ ?_
 ·replace h:=g1;obtain⟨i1,j1,h⟩:=bb h;have w:sub (q.map (ai .m)) l p=i1.map (ai .m):=by rw[bN,j1]
  obtain⟨q2,k1,h⟩:=ah h;refine ZF w ?_;refine ZSG w (CW.w _ k1) ?_;obtain⟨x,h⟩|⟨x,h⟩:=aw h
  ·cases h;exact ZL (ZA w x) trivial
  ·cases h;exact ZL (ZA w x) trivial
 ·simp only[ZC,EV];obtain⟨g,h⟩|⟨g,h⟩:=aw h
  ·cases h;exact ZL g e
  ·obtain⟨s2,l1,h⟩:=ah h;try refine ZF g ?_
   refine aF (bf (aN (w_bl d j k l p a t q) l1 ?_)) ?_
   ·exact ZK (ZA @RF.eq_1 @FS.eq_1)
   ·simp only[ZC,FS,DJ];obtain⟨t2,m1,h⟩:=ah h;refine ZF g ?_;refine ZWG g (CW.w _ m1) [1000000000] [] ?_;obtain⟨c,p1,h⟩:=ah h;try refine ZF g ?_
    refine aF (sh:=(fun v=>⟨[(1,.sl 1000000000 j k),(2,.sl 1000000001 l p),(4,.pt 4 0 0),(7,.pt 7 0 0),(11,.sl 11 0 0),(12,.pt 12 0 0),(14,.pt 14 0 0),(16,.b v.1),(17,.i 0)],[(4,.var (ar .m d)),(7,.var (aR .o a)),(11,.arr 10 []),(12,.var (ai .m v.2.1)),(14,.var (ax .m v.2.2.1)),(1000000000,.arr 2 (v.2.2.2.map (aJ .u))),(1000000001,.arr 10 (q.map (ai .m)))]⟩)) (s:=c) ?_ ?_
    ·replace h:=p1;obtain⟨y,h⟩|⟨y,h⟩:=aw h
     ·obtain⟨u2,q1,h⟩:=ah h;have f:=ZA g y;refine ZF f ?_;refine ZWG f (CW.w _ q1) [1000000000] [] ?_;cases h;exact ZL f trivial
     ·cases h;exact ZL (ZA g y) trivial
    ·simp only[ZC,FF];obtain⟨a1,h⟩|⟨a1,h⟩:=aw h
     ·cases h;exact ZL (ZA g a1) e
     ·obtain⟨s1,t1,h⟩:=ah h;have f:=ZA g a1;try refine ZF f ?_
      refine aF (sh:=(fun v=>⟨[(1,.sl 1000000000 j k),(2,.sl 1000000001 l p),(4,.pt 4 0 0),(7,.pt 7 0 0),(11,.sl 11 0 0),(12,.pt 12 0 0),(14,.pt 14 0 0),(17,.i v)],[(4,.var (ar .m d)),(7,.var (aR .o a)),(11,.arr 10 []),(12,.var (ai .m c.2.1)),(14,.var (ax .m c.2.2.1)),(1000000000,.arr 2 (c.2.2.2.map (aJ .u))),(1000000001,.arr 10 (q.map (ai .m)))]⟩)) (s:=s1) ?_ ?_
      ·replace h:=t1;obtain⟨b1,h⟩|⟨b1,h⟩:=aw h
       ·obtain⟨v2,u1,h⟩:=ah h;have f:=ZA f b1;refine ZF f ?_;refine ZSG f (CW.w _ u1) ?_;obtain⟨v1,w1,h⟩:=bb h;have y1:sub (c.2.2.2.map (aJ .u)) j k=v1.map (aJ .u):=by rw[bN,w1]
        obtain⟨w2,z1,h⟩:=ah h;have f:=ZA f y1;refine ZF f ?_;refine ZSG f (CW.w _ z1) ?_;cases h;exact ZL f trivial
       ·cases h;exact ZL (ZA f b1) trivial
      ·simp only[ZC,Dz];obtain⟨x2,a2,h⟩:=ah h;refine ZF f ?_;refine ZSG f (CW.w _ a2) ?_;obtain⟨b2,c2,h⟩:=bb h;have d2:sub (c.2.2.2.map (aJ .u)) j k=b2.map (aJ .u):=by rw[bN,c2]
       obtain⟨y2,g2,h⟩:=ah h;have f:=ZA f d2;refine ZF f ?_;refine ZSG f (CW.w _ g2) ?_;obtain⟨i2,j2,h⟩:=ah h;refine ZF f ?_;refine ZWG f (CW.w _ j2) [1000000000] [] ?_;obtain⟨c1,h⟩|⟨c1,h⟩:=aw h
       ·cases h;exact ZL (ZA f c1) e
       ·obtain⟨k2,l2,h⟩:=bb h;have m2:sub (i2.2.2.map (ai .m)) l p=k2.map (ai .m):=by rw[bN,l2]
        obtain⟨z2,p2,h⟩:=ah h;have f:=ZA f (ZA c1 m2);refine ZF f ?_;refine ZUG f (CW.w _ p2) ?_;cases h;exact ZL f e⟩
theorem w_dr(a:ae)(p1Z0:Int){r:Bool}(h:LL a p1Z0=some r):Ok A1 99 [(ai .o a),.bp .o (.i p1Z0) 0] (.b r):=ZO m99 (LL.eq_1 _ _) trivial (ZA @tU.eq_1 @A99.eq_1) h
instance(a:ae)(p1Z0:Int):CW (LL a p1Z0) (fun(r:Bool)=>Ok A1 99 [(ai .o a),.bp .o (.i p1Z0) 0] (.b r)):=⟨fun r h=>w_dr a p1Z0 h⟩
theorem w_dc{H:World->Prop}(b:Int)(c:Int)(a:List (Tok H ai 10)){r:Nat×Nat×List (Tok H ai 10)}(h:yf Tok.x iE b c a=some r):Hl H A1 100 [.sl 1000000000 0 a.length,.i b,.i c] [(1000000000,.arr 10 (a.map co))] (.sl 1000000000 r.1 r.2.1) ([(1000000000,.arr 10 (r.2.2.map co))]):=by
 refine nl (lr:=[1000000000]) bH agn rfl rfl ?_;unfold yf at h;simp only[ZC,OI,dt];obtain⟨b2,l,h⟩:=ah h;obtain⟨j,h⟩|⟨j,h⟩:=aw h
 ·cases h;exact ZL (ZA YV (ZA Yu (ZA (aY l) j))) @dt.eq_1
 ·obtain⟨c2,k1,h⟩:=ah h;obtain⟨l1,m1,m,p⟩:=aY k1;have q:=A0 m p;try simp only[Int.toNat_natCast,Nat.zero_add] at q
  obtain⟨d2,p1,h⟩:=ah h;obtain⟨q1,s1,s,t⟩:=aY p1;have u:=A0 s t;try simp only[Int.toNat_natCast,Nat.zero_add] at u
  obtain⟨d,t1,h⟩:=bb h;have u1:sub (a.map co) (B5 c) (a.length-(B5 c))=d.map co:=by rw[bN,t1]
  obtain⟨g2,v1,h⟩:=ah h;have v:=aY v1;have w:=v;try rw[Nat.zero_add] at w
  obtain⟨g,y,h⟩:=bb h;have z:dg (a.map co) (B5 b) (d.map co)=g.map co:=by rw[<-y,<-rp]<;>simp[List.map_take,lX]
  try simp only[Int.toNat_natCast] at z
  have a1:g.length=a.length:=by rw[<-y];exact gg _ _ _
  obtain⟨i2,w1,h⟩:=ah h;obtain⟨y1,z1,b1,c1⟩:=aY w1;have k:=A0 b1 c1;try simp only[Int.toNat_natCast,Nat.zero_add] at k
  have d1:=k;try simp only[a1] at d1
  obtain⟨g1,i1,h⟩:=bb h;have j1:dg (g.map co) (B5 ((((B5 b)+d.length):Nat):Int)) (List.replicate ((B5 (a.length:Int))-(B5 ((((B5 b)+d.length):Nat):Int))) (.agg [.i 0,.i 0,.i 0,.sc (.slice none 0 0),.i 0,.i 0,.i 0,.sc (.slice none 0 0),.i 0,.i 0]:AV))=g1.map co:=by rw[<-i1,<-rp]<;>simp[List.map_take,lX]
  try simp only[Int.toNat_natCast] at j1
  have a2:g1.length=g.length:=by rw[<-i1];exact gg _ _ _
  cases h;exact ZL (ZA YV (ZA Yu (ZA (aY l) (ZA j (ZA l1 (ZA m1 (ZA m (ZA p (ZA q (ZA q1 (ZA s1 (ZA s (ZA t (ZA u (ZA u1 (ZA v (ZA w (ZA z (ZA y1 (ZA z1 (ZA b1 (ZA c1 (ZA k (ZA d1 j1)))))))))))))))))))))))) (ZA @dt.eq_1 (ZA a1 a2))
instance(b:Int)(c:Int)(a:List ae):CW (yf id (⟨0,0,(⟨0,[]⟩:aj),(⟨0,0⟩:aD),(⟨0,[]⟩:aj),(⟨0,0⟩:aD)⟩:ae) b c a) (fun(r:Nat×Nat×List ae)=>OkM A1 100 [.sl 1000000000 0 a.length,.i b,.i c] [(1000000000,.arr 10 (a.map (ai .u)))] (.sl 1000000000 r.1 r.2.1) ([(1000000000,.arr 10 (r.2.2.map (ai .u)))])):=⟨fun r h=>by
 refine LZ (E:=ai) (k:=10) (R:=1000000000) (R':=1000000000) (xs:=a) (ys:=r.2.2) (ins:=[(1000000000,.arr 10 (a.map (ai .u)))]) (outsR:=(fun(r:Nat×Nat×List ae)=>[(1000000000,.arr 10 (r.2.2.map (ai .u)))]) r) (fun x=>⟨_,rfl,rfl⟩) (by decide) (fun w S B v x fp h B'=>AK x▸h.shs B') rfl (fun _ _=>rfl) rfl (fun _ _=>rfl) (VC (by simp[Row.flatU,AV.noU])) fun H d hX=>?_;subst hX;obtain⟨g,h1,h2,h3⟩:=iu d b c h;have hw:=w_dc b c d h1;try simp only[List.length_map]
 exact⟨g,_,_,h2,h3,rfl,fun q hq=>by simp only[aB,if_neg (Ne.symm hq)],rfl,fun q hq=>by simp only[aB,if_neg (Ne.symm hq)],hw⟩⟩
instance(c:af)(d:List ae)(g:Int):CW (LJ c d g) (fun(r:List ae×Bool)=>Ok A1 25 [(ar .o c),.lst .o 10 (d.map (ai .o)),.i g] (.tup [.lst .u 10 (r.1.map (ai .u)),.b r.2])):=⟨fun r h=>by
 refine bn bH m25 rfl ?_;unfold LJ at h;simp only[ZC,A25,gt,ca];obtain⟨m,p,h⟩:=ah h;refine ZF trivial ?_;refine ZSG trivial (w_db _ _ p 99 [.bp .o (.i g) 0] ⟨fun ρ k=>by simp only[VS1,VS2,VS3,VS4,VS5,VS6,VT1,VT2,bB,bz,decide_true,decide_false,B0,A9,dS,dV,dN,ne_eq,not_false_eq_true,B2,B3,true_and,false_and,A6,A7,↓reduceIte,reduceCtorEq,A2,A8,A3,B4],by simp[aP,AV.ments]⟩ (fun _ _ h=>w_dr _ _ h)) ?_;obtain⟨q,t,h⟩:=ah h;try refine ZF trivial ?_
 refine aF (sh:=(fun v=>⟨[(1,.lst .o 10 (d.map (ai .o))),(8,.i m),(19,.b v)],[]⟩)) (s:=q) ?_ ?_
 ·replace h:=t;obtain⟨d1,w,h⟩:=ah h;refine ZF trivial ?_;refine ZSG trivial (CW.w _ w) ?_;obtain⟨j,h⟩|⟨j,h⟩:=aw h
  ·cases h;exact ZL j trivial
  ·cases h;exact ZL j trivial
 ·simp only[ZC,YG];obtain⟨a,h⟩|⟨a,h⟩:=aw h
  ·cases h;exact ZL a @gt.eq_1
  ·obtain⟨g1,x,h⟩:=ah h;refine ZF a ?_;refine ZUG a (CW.w _ x) ?_;obtain⟨l,y,h⟩:=ah h;refine ZF a ?_;refine ZWG a (CW.w _ y) [1000000000] [] ?_;obtain⟨a1,b1,h⟩:=bb h;have c1:sub (l.2.2.map (ai .u)) l.1 l.2.1=a1.map (ai .u):=by rw[bN,b1]
   cases h;exact ZL (ZA a c1) @gt.eq_1⟩
def Wq(a:List Int)(b:List Int)(v:Int):St:=⟨[(0,.lst .o 1 (a.map AV.i)),(1,.lst .o 1 (b.map AV.i)),(5,.i v)],[]⟩
instance(c:List Int)(d:List Int):CL (Ip c d) Fi [0,1,5] [] (Wq c d) (qS (qX 0 [] [] (cK)) (qR aK (fun r=>.b r))):=⟨fun i o h=>by
 unfold Ip at h;simp only[ZC,Wq,Fi];exact ZT trivial (ZA @Wq.eq_1 (ZA @cK.eq_1 (ZA @aK.eq_1 @Fi.eq_1))) h⟩
instance(c:List Int)(d:List Int):CW (Rt c d) (fun(r:Bool)=>Ok A1 14 [.lst .o 1 (c.map AV.i),.lst .o 1 (d.map AV.i)] (.b r)):=⟨fun r h=>ZO m14 (Rt.eq_1 _ _) ZJ (ZA @Wq.eq_1 (ZA @cK.eq_1 (ZA @aad.eq_1 (ZA @aK.eq_1 @A14.eq_1)))) h⟩
instance(c:aj)(d:aj):CW (Ig c d) (fun(r:Bool)=>Ok A1 61 [(ax .o c),(ax .o d)] (.b r)):=⟨fun r h=>ZO m61 (Ig.eq_1 _ _) trivial (ZA @aK.eq_1 @A61.eq_1) h⟩
instance(a:ae)(c:ae):CW (Qx a c) (fun(r:Bool)=>Ok A1 26 [(ai .o a),(ai .o c)] (.b r)):=⟨fun r h=>ZO m26 (Qx.eq_1 _ _) trivial (ZA @A26.eq_1 (ZA @aK.eq_1 @A26.eq_1)) h⟩
def S_y(c:List ae)(b:Int×List Int×List Int)(a:ae)(v:Int×List Int):St:=⟨[(6,.sl 6 0 v.2.length),(7,.sl 7 0 b.2.2.length),(9,.pt 9 0 0),(22,.lst .o 10 (c.map (ai .o))),(23,.i (c.length:Int)),(24,.i b.1),(30,.lst .o 1 (a.N.F.map AV.i)),(31,.i (a.N.F.length:Int)),(32,.i v.1)],[(6,.arr 1 (v.2.map AV.i)),(7,.arr 1 (b.2.2.map AV.i)),(9,.var (ai .o a))]⟩
def Wx(c:List ae)(b:Int×List Int×List Int)(a:ae)(v:List Int):St:=⟨[(6,.sl 6 0 v.length),(7,.sl 7 0 b.2.2.length),(9,.pt 9 0 0),(22,.lst .o 10 (c.map (ai .o))),(23,.i (c.length:Int)),(24,.i b.1)],[(6,.arr 1 (v.map AV.i)),(7,.arr 1 (b.2.2.map AV.i)),(9,.var (ai .o a))]⟩
def w_y(b:List ae)(c:Int×List Int×List Int)(a:ae)(d:Int×List Int)(o:(Int×List Int)⊕(List Int))(h:M_y a d=some o):AWP (OkS A1) Bq (qL [6,7,9,22,23,24,30,31,32] [6,7,9] (S_y b c a) (qX 2 [6,7,9,22,23,24] [6,7,9] (Wx b c a)) o) (S_y b c a d):=by
 have e:=ZA @S_y.eq_1 @Wx.eq_1;unfold M_y at h;simp only[ZC,S_y,Bq];obtain⟨g,h⟩|⟨g,h⟩:=aw h
 ·obtain⟨k,l,h⟩:=ah h;obtain⟨w,m,h⟩:=ah h;obtain⟨p,q,h⟩:=ah h;obtain⟨s,t,h⟩:=ah h;have f:=ZA g (ZA (cg l) (ZA (aY m) q));refine ZF f ?_;refine ZSG f (CW.w _ t) ?_;obtain⟨u,j,h⟩:=bb h;have v:(d.2.map AV.i).set (B5 k) (.i (bits .or .i64 p s))=u.map AV.i:=by rw[<-j,B7]
  cases h;exact ZL (ZA f v) (ZA e j.symm)
 ·cases h;exact ZL g e
def S_p(b:List ae)(d:Int×List Int×List Int)(a:ae)(c:List Int)(v:Int×List Int):St:=⟨[(6,.sl 6 0 c.length),(7,.sl 7 0 v.2.length),(9,.pt 9 0 0),(22,.lst .o 10 (b.map (ai .o))),(23,.i (b.length:Int)),(24,.i d.1),(48,.lst .o 1 (a.F.F.map AV.i)),(49,.i (a.F.F.length:Int)),(50,.i v.1)],[(6,.arr 1 (c.map AV.i)),(7,.arr 1 (v.2.map AV.i)),(9,.var (ai .o a))]⟩
def Td(a:List ae)(c:Int×List Int×List Int)(b:List Int)(v:List Int):St:=⟨[(6,.sl 6 0 b.length),(7,.sl 7 0 v.length),(22,.lst .o 10 (a.map (ai .o))),(23,.i (a.length:Int)),(24,.i c.1)],[(6,.arr 1 (b.map AV.i)),(7,.arr 1 (v.map AV.i))]⟩
def w_p(a:List ae)(b:Int×List Int×List Int)(c:ae)(d:List Int)(g:Int×List Int)(o:(Int×List Int)⊕(List Int))(h:M_p c g=some o):AWP (OkS A1) Ba (qL [6,7,9,22,23,24,48,49,50] [6,7,9] (S_p a b c d) (qX 4 [6,7,22,23,24] [6,7] (Td a b d)) o) (S_p a b c d g):=by
 have e:=ZA @S_p.eq_1 @Td.eq_1;unfold M_p at h;simp only[ZC,S_p,Ba];obtain⟨j,h⟩|⟨j,h⟩:=aw h
 ·obtain⟨l,m,h⟩:=ah h;obtain⟨x,p,h⟩:=ah h;obtain⟨q,s,h⟩:=ah h;obtain⟨t,u,h⟩:=ah h;have f:=ZA j (ZA (cg m) (ZA (aY p) s));refine ZF f ?_;refine ZSG f (CW.w _ u) ?_;obtain⟨v,k,h⟩:=bb h;have w:(g.2.map AV.i).set (B5 l) (.i (bits .or .i64 q t))=v.map AV.i:=by rw[<-k,B7]
  cases h;exact ZL (ZA f w) (ZA e k.symm)
 ·cases h;exact ZL j e
def Un(a:List ae)(v:Int×List Int×List Int):St:=⟨[(6,.sl 6 0 v.2.1.length),(7,.sl 7 0 v.2.2.length),(22,.lst .o 10 (a.map (ai .o))),(23,.i (a.length:Int)),(24,.i v.1)],[(6,.arr 1 (v.2.1.map AV.i)),(7,.arr 1 (v.2.2.map AV.i))]⟩
def Ou(v:List Int×List Int):St:=⟨[(6,.sl 6 0 v.1.length),(7,.sl 7 0 v.2.length)],[(6,.arr 1 (v.1.map AV.i)),(7,.arr 1 (v.2.map AV.i))]⟩
instance(a:List ae):CL (GT a) Di [6,7,22,23,24] [6,7] (Un a) (qX 0 [6,7] [6,7] (Ou)):=⟨fun b o h=>by
 have e:=ZA @Un.eq_1 @Ou.eq_1;unfold GT at h;simp only[ZC,Un,Di];obtain⟨c,h⟩|⟨c,h⟩:=aw h
 ·obtain⟨l,m,h⟩:=ah h;try refine ZF c ?_
  refine aF (sh:=(fun v=>⟨[(6,.sl 6 0 v.1.length),(7,.sl 7 0 v.2.length),(22,.lst .o 10 (a.map (ai .o))),(23,.i (a.length:Int)),(24,.i b.1)],[(6,.arr 1 (v.1.map AV.i)),(7,.arr 1 (v.2.map AV.i))]⟩)) (s:=l) ?_ ?_
  ·replace h:=m;obtain⟨d,p,h⟩:=ah h;obtain⟨g,q,h⟩:=ah h;have f:=ZA c (cg p);try refine ZF f ?_
   refine aF (bf (aN (w_y a b d) q ?_)) ?_
   ·exact ZK (ZA @S_y.eq_1 @Wx.eq_1)
   ·simp only[ZC,Wx,Sz];obtain⟨t,j,h⟩:=ah h;try refine ZF f ?_
    first|refine cQ (bf (aN (w_p a b d g) j ?_)) (fun τ k=>?_)|refine dM (aN (w_p a b d g) j ?_) (fun τ k=>?_)
    ·exact ZK (ZA @S_p.eq_1 @Td.eq_1)
    ·cases h;try refine ZF trivial ?_
     refine⟨rfl,Shp.sub k (by decide) (by decide) ?_⟩;exact ZK @Td.eq_1
  ·simp only[ZC,Oj];cases h;exact ZL c e
 ·cases h;exact ZL c e⟩
instance(a:af)(b:List ae):CW (Bp a b) (fun(r:List Int×List Int)=>Ok A1 101 [(ar .o a),.lst .o 10 (b.map (ai .o))] (.tup [.lst .u 1 (r.1.map AV.i),.lst .u 1 (r.2.map AV.i)])):=⟨fun r h=>ZO m101 (Bp.eq_1 _ _) ZJB (ZA @Un.eq_1 (ZA @Ou.eq_1 (ZA @OH.eq_1 (ZA @lC.eq_1 @A101.eq_1)))) h⟩
instance(c:af)(d:List ae):CW (JD c d) (fun(r:List Int×List Int×Bool)=>Ok A1 27 [(ar .o c),.lst .o 10 (d.map (ai .o))] (.tup [.lst .u 1 (r.1.map AV.i),.lst .u 1 (r.2.1.map AV.i),.b r.2.2])):=⟨fun r h=>ZO m27 (JD.eq_1 _ _) trivial (ZA @V27.eq_1 @A27.eq_1) h⟩
instance(a:Int):CW (Vb a) (fun(r:Int)=>Ok A1 171 [.sc (.int .u64 a)] (.i r)):=⟨fun r h=>by
 refine bn bH m171 rfl ?_;unfold Vb oc6 oc5 oc4 oc3 oc2 oc1 at h;simp only[ZC,A171,V10,ca];exact ZT trivial @V10.eq_1 h⟩
instance(a:Int):CW (RT a) (fun(r:Int)=>Ok A1 102 [.sc (.int .u64 a)] (.i r)):=⟨fun r h=>ZO m102 (RT.eq_1 _) trivial (ZA @V10.eq_1 @A102.eq_1) h⟩
def TU(b:af)(a:List ae)(v:Int×Int):St:=⟨[(1,.lst .o 10 (a.map (ai .o))),(2,.pt 2 0 0),(6,.i v.1),(17,.lst .o 10 (a.map (ai .o))),(18,.i (a.length:Int)),(19,.i v.2)],[(2,.var (ar .o b))]⟩
def Nm(a:af)(b:List ae)(v:Int):St:=⟨[(1,.lst .o 10 (b.map (ai .o))),(2,.pt 2 0 0),(6,.i v)],[(2,.var (ar .o a))]⟩
instance(a:List ae):CX (Ct a) Fg [1,2,6,17,18,19] [2] (af) (fun b=>(TU b a)) (fun b=>(qX 0 [1,2,6] [2] (Nm b a))):=⟨fun b d o h=>by
 unfold Ct at h;simp only[ZC,TU,Fg];exact ZT trivial (ZA @TU.eq_1 (ZA @Nm.eq_1 @Fg.eq_1)) h⟩
def TI(a:List Int×List Int)(v:Int×Int):St:=⟨[(6,.i v.1),(40,.sl 10 0 a.2.length),(41,.i (a.2.length:Int)),(42,.i v.2)],[(10,.arr 1 (a.2.map AV.i))]⟩
def Kz(v:Int):St:=⟨[(6,.i v)],[]⟩
instance(a:List Int×List Int):CL (zj a) Fe [6,40,41,42] [10] (TI a) (qX 2 [6] [] (Kz)):=⟨fun c o h=>by
 unfold zj at h;simp only[ZC,TI,Fe];exact ZT trivial (ZA @TI.eq_1 (ZA @Kz.eq_1 @Fe.eq_1)) h⟩
instance(c:af)(d:List ae):CW (OS c d) (fun(r:Int×Bool)=>Ok A1 28 [(ar .o c),.lst .o 10 (d.map (ai .o))] (.tup [.i r.1,.b r.2])):=⟨fun r h=>ZO m28 (OS.eq_1 _ _) ZJ (ZA @TU.eq_1 (ZA @Nm.eq_1 (ZA @TI.eq_1 (ZA @Kz.eq_1 (ZA @YM.eq_1 (ZA @YP.eq_1 (ZA @lC.eq_1 @A28.eq_1))))))) h⟩
def S_m(a:af×Nat×Nat×Nat×Nat×aO×List aA×List ae)(b:List ae×Int×Bool)(d:Int×Bool×List ae×List aA×List ae)(c:List ae×Bool)(v:Int):St:=⟨[(3,.pt 3 0 0),(5,.sl 5 a.2.2.2.1 a.2.2.2.2.1),(7,.sl 7 0 b.1.length),(13,.sl 13 0 c.1.length),(15,.i v)],[(3,.var (ar .m a.1)),(5,.arr 10 (d.2.2.2.2.map (ai .m))),(7,.arr 10 (b.1.map (ai .u))),(13,.arr 10 (c.1.map (ai .u)))]⟩
def XU(a:af×Nat×Nat×Nat×Nat×aO×List aA×List ae)(b:List ae×Int×Bool)(v:Unit):St:=⟨[(3,.pt 3 0 0),(7,.sl 7 0 b.1.length)],[(3,.var (ar .m a.1)),(7,.arr 10 (b.1.map (ai .u)))]⟩
def w_m(a:af×Nat×Nat×Nat×Nat×aO×List aA×List ae)(c:List ae×Int×Bool)(d:Int×Bool×List ae×List aA×List ae)(g:List ae×Bool)(k:Int)(o:Int⊕(Unit⊕Bool))(h:M_m a d g k=some o):AWP (OkS A1) afm (qL [3,5,7,13,15] [3,5,7,13] (S_m a c d g) (qS (qX 0 [3,7] [3,7] (XU a c)) (qR V10 (fun r=>.b r))) o) (S_m a c d g k):=by
 have e:=ZA @S_m.eq_1 @XU.eq_1;unfold M_m at h;simp only[ZC,S_m,afm];obtain⟨i,h⟩|⟨i,h⟩:=aw h
 ·obtain⟨t,l,h⟩:=ah h;obtain⟨u,m,h⟩:=ah h;obtain⟨v,p,h⟩:=ah h;obtain⟨w,q,h⟩:=ah h;obtain⟨x,s,h⟩:=ah h;have f:=ZA i (ZA (aY l) (ZA m (ZA (aY p) q)));refine ZF f ?_;refine ZSG f (CW.w _ s) ?_;obtain⟨j,h⟩|⟨j,h⟩:=aw h
  ·cases h;exact ZL (ZA f j) @V10.eq_1
  ·cases h;exact ZL (ZA f j) e
 ·cases h;exact ZL i e
def S_n(c:af×Nat×Nat×Nat×Nat×aO×List aA×List ae)(d:List ae×Int×Bool)(a:List Int×List Int×Bool)(v:Int):St:=⟨[(3,.pt 3 0 0),(7,.sl 7 0 d.1.length),(16,.sl 16 0 a.1.length),(17,.sl 17 0 a.2.1.length),(18,.b a.2.2),(19,.i v)],[(3,.var (ar .m c.1)),(7,.arr 10 (d.1.map (ai .u))),(16,.arr 1 (a.1.map AV.i)),(17,.arr 1 (a.2.1.map AV.i))]⟩
def Ui(a:af×Nat×Nat×Nat×Nat×aO×List aA×List ae)(c:List ae×Int×Bool)(d:List Int×List Int×Bool)(v:Unit):St:=⟨[(3,.pt 3 0 0),(7,.sl 7 0 c.1.length),(18,.b d.2.2)],[(3,.var (ar .m a.1)),(7,.arr 10 (c.1.map (ai .u)))]⟩
def w_n(c:af×Nat×Nat×Nat×Nat×aO×List aA×List ae)(d:List ae×Int×Bool)(a:List Int×List Int×Bool)(j:Int)(o:Int⊕(Unit⊕Bool))(h:M_n a j=some o):AWP (OkS A1) aeo (qL [3,7,16,17,18,19] [3,7,16,17] (S_n c d a) (qS (qX 2 [3,7,18] [3,7] (Ui c d a)) (qR V10 (fun r=>.b r))) o) (S_n c d a j):=by
 have e:=ZA @S_n.eq_1 @Ui.eq_1;unfold M_n at h;simp only[ZC,S_n,aeo];obtain⟨x,y,h⟩:=ah h;try refine ZF trivial ?_
 refine aF (sh:=(fun v=>⟨[(3,.pt 3 0 0),(7,.sl 7 0 d.1.length),(16,.sl 16 0 a.1.length),(17,.sl 17 0 a.2.1.length),(18,.b a.2.2),(19,.i j),(119,.b v)],[(3,.var (ar .m c.1)),(7,.arr 10 (d.1.map (ai .u))),(16,.arr 1 (a.1.map AV.i)),(17,.arr 1 (a.2.1.map AV.i))]⟩)) (s:=x) ?_ ?_
 ·replace h:=y;obtain⟨k,h⟩|⟨k,h⟩:=aw h
  ·cases h;exact ZL k trivial
  ·cases h;exact ZL k trivial
 ·simp only[ZC,A4R6];obtain⟨g,h⟩|⟨g,h⟩:=aw h
  ·obtain⟨a1,p,h⟩:=ah h;obtain⟨b1,q,h⟩:=ah h;obtain⟨c1,t,h⟩:=ah h;obtain⟨d1,w,h⟩:=ah h;obtain⟨l,h⟩|⟨l,h⟩:=aw h
   ·cases h;exact ZL (ZA g (ZA (aY p) (ZA q (ZA (aY t) (ZA w l))))) @V10.eq_1
   ·cases h;exact ZL (ZA g (ZA (aY p) (ZA q (ZA (aY t) (ZA w l))))) e
  ·cases h;exact ZL g e
def w_ex(b1:List Int){r:Bool}(h:Uf b1=some r):Ok A1 4 [.lst .o 1 (b1.map AV.u8)] (.b r):=by
 have e:=@V10.eq_1;refine bn bH m4 rfl ?_;unfold Uf at h;simp only[ZC,A4,V10,ca];obtain⟨p2,c1,h⟩:=ah h;refine ZF trivial ?_;refine ZSG trivial (CW.w _ c1) ?_;obtain⟨d,h⟩|⟨d,h⟩:=aw h
 ·cases h;exact ZL d e
 ·obtain⟨a,d1,h⟩:=ah h;refine ZF d ?_;refine ZWG d (CW.w _ d1) [3,4] [2700003,2700004] ?_;obtain⟨g1,i1,h⟩:=bb h;have j1:sub (a.2.2.2.2.2.2.1.map (aJ .u)) a.2.1 a.2.2.1=g1.map (aJ .u):=by rw[bN,i1]
  obtain⟨k1,l1,h⟩:=bb h;have m1:sub (a.2.2.2.2.2.2.2.map (ai .m)) a.2.2.2.1 a.2.2.2.2.1=k1.map (ai .m):=by rw[bN,l1]
  obtain⟨c,p1,h⟩:=ah h;have f:=ZA d (ZA j1 m1);refine ZF f ?_;refine ZUG f (CW.w _ p1) ?_;obtain⟨g,q1,h⟩:=ah h;refine ZF f ?_;refine ZWG f (CW.w _ q1) [8,1000000000,1000000001] [4600008] ?_;obtain⟨s1,t1,h⟩:=ah h;try refine ZF f ?_
  refine aF (sh:=(fun v=>⟨[(3,.pt 3 0 0),(5,.sl 5 a.2.2.2.1 a.2.2.2.2.1),(7,.sl 7 0 c.1.length),(8,.i c.2.1),(9,.b c.2.2),(56,.b v)],[(3,.var (ar .m a.1)),(5,.arr 10 (g.2.2.2.2.map (ai .m))),(7,.arr 10 (c.1.map (ai .u)))]⟩)) (s:=s1) ?_ ?_
  ·replace h:=t1;obtain⟨l,h⟩|⟨l,h⟩:=aw h
   ·cases h;exact ZL (ZA f l) trivial
   ·cases h;exact ZL (ZA f l) trivial
  ·simp only[ZC,A4R1];obtain⟨j,h⟩|⟨j,h⟩:=aw h
   ·cases h;exact ZL (ZA f j) e
   ·obtain⟨p,h⟩|⟨p,h⟩:=aw h
    ·cases h;exact ZL (ZA f (ZA j p)) e
    ·obtain⟨u1,v1,h⟩:=ah h;have f:=ZA f (ZA j p);try refine ZF f ?_
     refine aF (sh:=(fun v=>⟨[(3,.pt 3 0 0),(5,.sl 5 a.2.2.2.1 a.2.2.2.2.1),(7,.sl 7 0 c.1.length),(8,.i c.2.1),(73,.b v)],[(3,.var (ar .m a.1)),(5,.arr 10 (g.2.2.2.2.map (ai .m))),(7,.arr 10 (c.1.map (ai .u)))]⟩)) (s:=u1) ?_ ?_
     ·replace h:=v1;obtain⟨q2,w1,h⟩:=ah h;refine ZF f ?_;refine ZSG f (CW.w _ w1) ?_;obtain⟨q,h⟩|⟨q,h⟩:=aw h
      ·cases h;exact ZL (ZA f q) trivial
      ·cases h;exact ZL (ZA f q) trivial
     ·simp only[ZC,A4R2];obtain⟨t,h⟩|⟨t,h⟩:=aw h
      ·cases h;exact ZL (ZA f t) e
      ·obtain⟨w,y1,h⟩:=ah h;have f:=ZA f t;refine ZF f ?_;refine ZUG f (CW.w _ y1) ?_;obtain⟨z1,a2,h⟩:=ah h;try refine ZF f ?_
       refine aF (sh:=(fun v=>⟨[(3,.pt 3 0 0),(5,.sl 5 a.2.2.2.1 a.2.2.2.2.1),(7,.sl 7 0 c.1.length),(13,.sl 13 0 w.1.length),(89,.b v)],[(3,.var (ar .m a.1)),(5,.arr 10 (g.2.2.2.2.map (ai .m))),(7,.arr 10 (c.1.map (ai .u))),(13,.arr 10 (w.1.map (ai .u)))]⟩)) (s:=z1) ?_ ?_
       ·replace h:=a2;obtain⟨x,h⟩|⟨x,h⟩:=aw h
        ·cases h;exact ZL (ZA f x) trivial
        ·cases h;exact ZL (ZA f x) trivial
       ·simp only[ZC,A4R3];obtain⟨y,h⟩|⟨y,h⟩:=aw h
        ·cases h;exact ZL (ZA f y) e
        ·obtain⟨b2,c2,h⟩:=ah h;have f:=ZA f y;try refine ZF f ?_
         refine cm (o:=b2) (cT lS (aN (w_m a c g w) c2 ?_)) (fun s2 hv=>?_) (fun t2 hv e τ hne hq=>?_)
         ·exact ZK (ZA @S_m.eq_1 @XU.eq_1)
         ·subst hv;simp only[] at h;simp only[ZC,XU,A4R5];obtain⟨d2,g2,h⟩:=ah h;refine ZF f ?_;refine ZUG f (CW.w _ g2) ?_;obtain⟨i2,j2,h⟩:=ah h;try refine ZF f ?_
          refine cm (o:=i2) (cT lS (aN (w_n a c d2) j2 ?_)) (fun u2 hv=>?_) (fun v2 hv e τ hne hq=>?_)
          ·exact ZK (ZA @S_n.eq_1 @Ui.eq_1)
          ·subst hv;simp only[] at h;simp only[ZC,Ui,A4R8];obtain⟨w2,k2,h⟩:=ah h;refine ZF f ?_;refine ZUG f (CW.w _ k2) ?_;obtain⟨k,h⟩|⟨k,h⟩:=aw h
           ·obtain⟨a1,h⟩|⟨a1,h⟩:=aw h
            ·cases h;exact ZL (ZA f (ZA k a1)) e
            ·cases h;exact ZL (ZA f (ZA k a1)) e
           ·cases h;exact ZL (ZA f k) e
          ·subst hv;simp only[] at h;obtain⟨rfl,l2⟩:=hq;cases h;exact l2
         ·subst hv;simp only[] at h;obtain⟨rfl,m2⟩:=hq;cases h;exact m2
end Vs

