/-
  Part of the proof that FnExactRunEvents returns true at every input.
-/
import Derived.Test.YtgpbibgbfklikaaGreatGb
set_option linter.defProp false
set_option linter.unusedSimpArgs false
set_option linter.unusedVariables false
open And renaming intro -> A0
open Go.Proofs.Tryz renaming prog -> A1
open Nat renaming reduceEqDiff -> A2, reduceLeDiff -> A3, reduceSub -> A5, reduceMul -> A6, reduceAdd -> A7, reduceLT -> B9
open List renaming map_append -> A4, nodup_cons -> A8, nodup_nil -> A9, length_replicate -> B4, length_append -> B5, length_cons -> B6, length_set -> B7, length_nil -> B8
open Int renaming reduceEq -> B0, reduceNe -> B1, reduceLE -> B2, toNat -> B3
set_option maxHeartbeats 1000000
set_option maxRecDepth 8000
namespace Vs
open Go Go.Proofs
attribute [local irreducible] AWP dV eff xz gR callM
instance(b:List ByteArray)(c:ByteArray):CL (GF b c) xS [0,1,7,8] [] (VR b c) (qS (qX 0 [] [] (cz)) (qR V85 (fun r=>.i r))):=⟨fun g o h=>by
 unfold GF at h;simp only[ZC,VR,xS];exact ZT trivial (ZA @VR.eq_1 (ZA @cz.eq_1 (ZA @V85.eq_1 @xS.eq_1))) h⟩
instance(a:List ByteArray)(b:ByteArray):CW (Ww a b) (fun(r:Int)=>Ok A1 221 [.lst .o 1 (a.map AV.z),.z b] (.i r)):=⟨fun r h=>ZO m221 (Ww.eq_1 _ _) ZJ (ZA @VR.eq_1 (ZA @cz.eq_1 (ZA @Na.eq_1 (ZA @V85.eq_1 @A221.eq_1)))) h⟩
instance(a:List ByteArray)(c:ByteArray):CW (RS a c) (fun(r:Bool)=>Ok A1 181 [.lst .o 1 (a.map AV.z),.z c] (.b r)):=⟨fun r h=>ZO m181 (RS.eq_1 _ _) trivial (ZA @V85.eq_1 @A181.eq_1) h⟩
instance(a:Int):CW (OY a) (fun(r:Bool)=>Ok A1 233 [.i a] (.b r)):=⟨fun r h=>ZO m233 (OY.eq_1 _) trivial (ZA @V91.eq_1 @A233.eq_1) h⟩
instance(j:Int)(k:Int):CW (qn j k) (fun(r:Int)=>Ok A1 223 [.i j,.i k] (.i r)):=⟨fun r h=>ZO m223 (qn.eq_1 _ _) trivial (ZA @acl.eq_1 (ZA @V85.eq_1 @acl.eq_1)) h⟩
def S_y(a:List Int)(v:Int):St:=⟨[(3,.i 0),(6,.lst .o 1 (a.map AV.i)),(7,.i (a.length:Int)),(8,.i v)],[]⟩
def abz(v:Unit):St:=⟨[(3,.i 0)],[]⟩
instance(b:List Int):CL (M_y b) xj [3,6,7,8] [] (S_y b) (qS (qX 0 [3] [] (abz)) (qR V91 (fun r=>.i r))):=⟨fun d o h=>by
 unfold M_y at h;simp only[ZC,S_y,xj];exact ZT trivial (ZA @S_y.eq_1 (ZA @abz.eq_1 (ZA @V91.eq_1 @xj.eq_1))) h⟩
instance(a:List Int):CW (CH a) (fun(r:Int)=>Ok A1 222 [.lst .o 1 (a.map AV.i)] (.i r)):=⟨fun r h=>ZO m222 (CH.eq_1 _) ZJ (ZA @S_y.eq_1 (ZA @abz.eq_1 (ZA @NN.eq_1 (ZA @V91.eq_1 @A222.eq_1)))) h⟩
instance(a:aw)(b:aw):CW (Ra a b) (fun(r:Int)=>Ok A1 182 [(au .o a),(au .o b)] (.i r)):=⟨fun r h=>ZO m182 (Ra.eq_1 _ _) ZJB (ZA @V85.eq_1 @A182.eq_1) h⟩
def Vj(a:ah)(v:Int):St:=⟨[(1,.pt 1 0 0),(8,.lst .o 1 (a.N.map AV.z)),(9,.i (a.N.length:Int)),(10,.i v)],[(1,.var (aG .o a))]⟩
instance(a:ah):CL (HP a) Bs [1,8,9,10] [1] (Vj a) (qS (qX 0 [1] [1] (zl a)) (qR V91 (fun r=>.b r))):=⟨fun i o h=>by
 unfold HP at h;simp only[ZC,Vj,Bs];exact ZT trivial (ZA @V91.eq_1 (ZA @Vj.eq_1 @zl.eq_1)) h⟩
def XY(a:ah)(v:Int):St:=⟨[(1,.pt 1 0 0),(28,.lst .o 4 (a.F.map (au .o))),(29,.i (a.F.length:Int)),(30,.i v)],[(1,.var (aG .o a))]⟩
instance(d:ah):CL (Gn d) wr [1,28,29,30] [1] (XY d) (qS (qX 2 [1] [1] (zl d)) (qR V91 (fun r=>.b r))):=⟨fun q o h=>by
 unfold Gn at h;simp only[ZC,XY,wr];exact ZT trivial (ZA @V91.eq_1 (ZA @XY.eq_1 (ZA @zl.eq_1 @wr.eq_1))) h⟩
instance(a:ah):CW (Hn a) (fun(r:Bool)=>Ok A1 128 [(aG .o a)] (.b r)):=⟨fun r h=>ZO m128 (Hn.eq_1 _) ZJ (ZA @Vj.eq_1 (ZA @zl.eq_1 (ZA @XY.eq_1 (ZA @KY.eq_1 (ZA @NX.eq_1 (ZA @V91.eq_1 @A128.eq_1)))))) h⟩
instance(a:aw)(d:Int):CW (Dn a d) (fun(r:Int)=>Ok A1 185 [(au .o a),.i d] (.i r)):=⟨fun r h=>ZO m185 (Dn.eq_1 _ _) trivial (ZA @V85.eq_1 @A185.eq_1) h⟩
def WG(a:List Int)(b:Int)(v:Int):St:=⟨[(0,.lst .o 1 (a.map AV.i)),(1,.i b),(7,.i (a.length:Int)),(8,.i v)],[]⟩
instance(b:List Int)(c:Int):CL (JK b c) wP [0,1,7,8] [] (WG b c) (qS (qX 0 [] [] (cz)) (qR V85 (fun r=>.i r))):=⟨fun g o h=>by
 unfold JK at h;simp only[ZC,WG,wP];exact ZT trivial (ZA @WG.eq_1 (ZA @cz.eq_1 (ZA @V85.eq_1 @wP.eq_1))) h⟩
instance(a:List Int)(b:Int):CW (Vn a b) (fun(r:Int)=>Ok A1 146 [.lst .o 1 (a.map AV.i),.i b] (.i r)):=⟨fun r h=>ZO m146 (Vn.eq_1 _ _) ZJ (ZA @WG.eq_1 (ZA @cz.eq_1 (ZA @Lb.eq_1 (ZA @V85.eq_1 @A146.eq_1)))) h⟩
instance(a:List Int)(c:Int):CW (CT a c) (fun(r:Bool)=>Ok A1 84 [.lst .o 1 (a.map AV.i),.i c] (.b r)):=⟨fun r h=>ZO m84 (CT.eq_1 _ _) trivial (ZA @V85.eq_1 @A84.eq_1) h⟩
def Wa(a:ah)(b:aj)(v:Int×Int×List Int):St:=⟨[(2,.pt 2 0 0),(6,.sl 6 0 v.2.2.length),(7,.i v.1),(30,.lst .o 1 (b.F.map AV.i)),(31,.i (b.F.length:Int)),(32,.i v.2.1)],[(2,.var (aG .o a)),(6,.arr 1 (v.2.2.map AV.i))]⟩
instance(c:ah)(d:aj):CL (Gu c d) BC [2,6,7,30,31,32] [2,6] (Wa c d) (qS (qX 0 [6] [6] (GY)) (qR yk (fun r=>.tup [.lst .u 1 (r.1.map AV.i),.b r.2]))):=⟨fun a o h=>by
 unfold Gu at h;simp only[ZC,Wa,BC];exact ZT ZJB (ZA @yk.eq_1 (ZA @Wa.eq_1 (ZA @GY.eq_1 @Qo.eq_1))) h⟩
instance(c:ah)(a:aj):CW (GS c a) (fun(r:List Int×Bool)=>Ok A1 135 [(aG .o c),(ay .o a)] (.tup [.lst .u 1 (r.1.map AV.i),.b r.2])):=⟨fun r h=>ZO m135 (GS.eq_1 _ _) ZJB (ZA @Wa.eq_1 (ZA @GY.eq_1 (ZA @MZ.eq_1 (ZA @Sf.eq_1 (ZA @yk.eq_1 @A135.eq_1))))) h⟩
instance(c:aX):CW (KA c) (fun(r:Bool)=>Ok A1 183 [(bN .o c)] (.b r)):=⟨fun r h=>ZO m183 (KA.eq_1 _) trivial (ZA @V91.eq_1 @A183.eq_1) h⟩
instance(d:ah)(a:af):CW (Om d a) (fun(r:Bool)=>Ok A1 129 [(aG .o d),(ai .o a)] (.b r)):=⟨fun r h=>ZO m129 (Om.eq_1 _ _) trivial (ZA @V85.eq_1 @A129.eq_1) h⟩
instance(a:aX):CW (zg a) (fun(r:Int)=>Ok A1 184 [(bN .o a)] (.i r)):=⟨fun r h=>ZO m184 (zg.eq_1 _) trivial (ZA @V91.eq_1 @A184.eq_1) h⟩
def SX(a:Nat)(b:Nat)(c:Int)(v:Int×Int×List Int):St:=⟨[(0,.sl 1000000000 a b),(3,.i v.1),(4,.sl 1000000000 (a+(B3 c)) (b-(B3 c))),(5,.i v.2.1)],[(1000000000,.arr 1 (v.2.2.map AV.i))]⟩
def EW(a:Nat)(b:Nat)(v:Int×List Int):St:=⟨[(0,.sl 1000000000 a b),(3,.i v.1)],[(1000000000,.arr 1 (v.2.map AV.i))]⟩
instance(a:Nat)(b:Nat)(g:Int):CL (BS a b g) nQ [0,3,4,5] [1000000000] (SX a b g) (qX 2 [0,3] [1000000000] (EW a b)):=⟨fun c o h=>by
 unfold BS at h;simp only[ZC,SX,nQ];exact ZT ZJB (ZA @SX.eq_1 (ZA @EW.eq_1 @nQ.eq_1)) h⟩
def Uo(a:Nat)(b:Nat)(c:List Int)(v:Int):St:=⟨[(0,.sl 1000000000 a b),(3,.i v)],[(1000000000,.arr 1 (c.map AV.i))]⟩
def Eg(a:Nat)(b:Nat)(c:List Int)(v:Unit):St:=⟨[(0,.sl 1000000000 a b)],[(1000000000,.arr 1 (c.map AV.i))]⟩
instance(a:Nat)(b:Nat)(c:List Int):CL (Jr a b c) rm [0,3] [1000000000] (Uo a b c) (qS (qX 0 [0] [1000000000] (Eg a b c)) (qM V91 [1000000000] (fun(r:Nat×Nat×List Int)=>.sl 1000000000 r.1 r.2.1) (fun(r:Nat×Nat×List Int)=>[(1000000000,.arr 1 (r.2.2.map AV.i))]))):=⟨fun j o h=>by
 have e:=ZA @Uo.eq_1 @Eg.eq_1;unfold Jr at h;simp only[ZC,Uo,rm];obtain⟨d,h⟩|⟨d,h⟩:=aM h
 ·obtain⟨a1,l,h⟩:=ar h;obtain⟨b1,m,h⟩:=ar h;obtain⟨c1,p,h⟩:=ar h;obtain⟨d1,q,h⟩:=ar h;obtain⟨k,h⟩|⟨k,h⟩:=aM h
  ·obtain⟨g1,v,h⟩:=ar h;obtain⟨g,w,h⟩:=ar h;have f:=ZA d (ZA (bq l) (ZA m (ZA (bq p) (ZA q (ZA k (bq v))))));try refine ZF f ?_
   refine ba (bP (bf CL.w w ?_)) ?_
   ·exact ZK (ZA @SX.eq_1 @EW.eq_1)
   ·simp only[ZC,EW,Aw];obtain⟨i1,x,h⟩:=ar h;obtain⟨s,t,h⟩:=bg h;have u:dz (g.2.map AV.i) (a+(B3 g.1)) (List.replicate (b-(B3 g.1)) (.i 0:AV))=s.map AV.i:=by rw[<-t,<-sq]<;>simp[List.map_take]
    try simp only[Int.toNat_natCast] at u
    have y:s.length=g.2.length:=by rw[<-t];exact iV _ _ _
    obtain⟨j1,z,h⟩:=ar h;cases h;exact ZL (ZA f (ZA (bq x) (ZA u (bq z)))) (ZA @V91.eq_1 y)
  ·cases h;exact ZL (ZA d (ZA (bq l) (ZA m (ZA (bq p) (ZA q k))))) e
 ·cases h;exact ZL d e⟩
instance(b:Nat)(c:Nat)(d:List Int):CW (JD b c d) (fun(r:Nat×Nat×List Int)=>OkM A1 112 [.sl 1000000000 b c] [(1000000000,.arr 1 (d.map AV.i))] (.sl 1000000000 r.1 r.2.1) ([(1000000000,.arr 1 (r.2.2.map AV.i))])):=⟨fun r h=>by
 refine bw (lr:=[1000000000]) cr adj rfl rfl ?_;unfold JD at h;simp only[ZC,SO,V91];obtain⟨a,h⟩|⟨a,h⟩:=aM h
 ·cases h;exact ZL a @V91.eq_1
 ·obtain⟨g,j,h⟩:=ar h;try refine ZF a ?_
  refine gw (o:=g) (gG LL (bf CL.w j ?_)) (fun l hv=>?_) (fun m hv e τ hne hq=>?_)
  ·exact ZK (ZA @Uo.eq_1 @Eg.eq_1)
  ·subst hv;simp only[] at h;simp only[ZC,Eg,yO];cases h;exact ZL a @V91.eq_1
  ·subst hv;simp only[] at h;obtain⟨rfl,k⟩:=hq;cases h;exact k⟩
def WN(a:List Int)(b:List Int)(v:Int×List Int):St:=⟨[(1,.lst .o 1 (b.map AV.i)),(5,.sl 5 0 v.2.length),(9,.lst .o 1 (a.map AV.i)),(10,.i (a.length:Int)),(11,.i v.1)],[(5,.arr 1 (v.2.map AV.i))]⟩
instance(c:List Int)(d:List Int):CL (BN c d) Fv [1,5,9,10,11] [5] (WN c d) (qX 0 [5] [5] (tZ)):=⟨fun a o h=>by
 unfold BN at h;simp only[ZC,WN,Fv];exact ZT ZJB (ZA @WN.eq_1 (ZA @tZ.eq_1 @Fv.eq_1)) h⟩
instance(a:List Int)(b:List Int):CW (wy a b) (fun(r:List Int)=>Ok A1 68 [.lst .o 1 (a.map AV.i),.lst .o 1 (b.map AV.i)] (.lst .u 1 (r.map AV.i))):=⟨fun r h=>by
 refine bJ cr m68 rfl ?_;unfold wy at h;simp only[ZC,A68,V85,dg];obtain⟨d,j,h⟩:=ar h;try refine ZF trivial ?_
 refine ba (bP (bf CL.w j ?_)) ?_
 ·exact ZK (ZA @WN.eq_1 @tZ.eq_1)
 ·simp only[ZC,tZ,Zi];obtain⟨k,g,h⟩:=ar h;have l:k.length=d.length:=vz g;refine ZF trivial ?_;refine gm (by simp only[VS1,VS2,VS3,VS4,VS5,VS6,VT1,VT2,bj,bl,decide_true,decide_false,A9,A8,cG,cF,cE,ne_eq,not_false_eq_true,B0,B1,true_and,false_and,A5,A6,↓reduceIte,reduceCtorEq,A2,A7,A3,B2];exact(uX yC (xs:=d) (by simp[B8]) g)) (by simp[VS1,VS2,VS3,VS4,VS5,VS6,VT1,VT2]) (by first|exact mV [1000000000] rfl (by decide+kernel)|simp[VS1,VS2,VS3,VS4,VS5,VS6,VT1,VT2]) ?_;refine ZG ?_;obtain⟨c,m,h⟩:=ar h;refine ZF trivial ?_;refine ZWG trivial (CW.w _ m) [1000000000] [] ?_;obtain⟨p,q,h⟩:=bg h;have s:sub (c.2.2.map AV.i) c.1 c.2.1=p.map AV.i:=by rw[bz,q]
  cases h;exact ZL s (ZA @V85.eq_1 l)⟩
instance(a:af)(c:af):CW (He a c) (fun(r:Bool)=>Ok A1 131 [(ai .o a),(ai .o c)] (.b r)):=⟨fun r h=>ZO m131 (He.eq_1 _ _) trivial (ZA @V85.eq_1 @A131.eq_1) h⟩
theorem abp(a:af)(p1Z0:af){r:Bool}(h:BU a p1Z0=some r):Ok A1 130 [(ai .o a),.bp .o (ai .o p1Z0) 0] (.b r):=ZO m130 (BU.eq_1 _ _) trivial (ZA @qB.eq_1 @A130.eq_1) h
instance(a:af)(p1Z0:af):CW (BU a p1Z0) (fun(r:Bool)=>Ok A1 130 [(ai .o a),.bp .o (ai .o p1Z0) 0] (.b r)):=⟨fun r h=>abp a p1Z0 h⟩
def NQ(a:List af)(F_fZ0:Nat)(C_fZ0:List AV)(v:Int):St:=⟨[(0,.lst .o 5 (a.map (ai .o))),(1,.fn F_fZ0 C_fZ0),(7,.i (a.length:Int)),(8,.i v)],[]⟩
def w_ag(c:List af)(j:af->Option Bool)(F_fZ0:Nat)(C_fZ0:List AV)(hC_fZ0:tP C_fZ0)(hf_fZ0:∀(x0:af)(r:Bool),j x0=some r->Ok A1 F_fZ0 ((.agg [.i x0.Id,.i x0.F.N,.lst .o 1 (x0.F.F.map AV.i),.i x0.N.N,.i x0.N.F])::C_fZ0) (.b r))(k:Int)(o:Int⊕(Unit⊕Int))(h:wD c j k=some o):AWP (OkS A1) CB (qL [0,1,7,8] [] (NQ c F_fZ0 C_fZ0) (qS (qX 0 [] [] (cz)) (qR V85 (fun r=>.i r))) o) (NQ c F_fZ0 C_fZ0 k):=by
 have e:=ZA @NQ.eq_1 @cz.eq_1;unfold wD at h;simp only[ZC,NQ,CB];obtain⟨a,h⟩|⟨a,h⟩:=aM h
 ·obtain⟨m,d,h⟩:=ar h;obtain⟨p,l,h⟩:=ar h;have f:=ZA a (ec d);refine ZF f ?_;have f:=ZA f hC_fZ0.1;refine ZSG f (hf_fZ0 _ _ l) ?_;obtain⟨g,h⟩|⟨g,h⟩:=aM h
  ·cases h;exact ZL (ZA a (ZA (ec d) g)) (ZA @V85.eq_1 (ZA hC_fZ0.2 ((dE hC_fZ0))))
  ·cases h;exact ZL (ZA a (ZA (ec d) g)) (ZA e (ZA hC_fZ0.2 ((dE hC_fZ0))))
 ·cases h;exact ZL a (ZA e (ZA hC_fZ0.2 ((dE hC_fZ0))))
def aez(a:List af)(c:af->Option Bool){r:Int}(h:AN a c=some r)(F_fZ0:Nat)(C_fZ0:List AV)(hC_fZ0:tP C_fZ0)(hf_fZ0:∀(x0:af)(r:Bool),c x0=some r->Ok A1 F_fZ0 ((.agg [.i x0.Id,.i x0.F.N,.lst .o 1 (x0.F.F.map AV.i),.i x0.N.N,.i x0.N.F])::C_fZ0) (.b r)):Ok A1 133 [.lst .o 5 (a.map (ai .o)),.fn F_fZ0 C_fZ0] (.i r):=by
 refine bJ cr m133 rfl ?_;unfold AN at h;simp only[ZC,A133,V85,dg];obtain⟨d,g,h⟩:=ar h;try refine ZF trivial ?_
 refine gw (o:=d) (gG zd (bf (w_ag a c F_fZ0 C_fZ0 hC_fZ0 hf_fZ0) g ?_)) (fun k hv=>?_) (fun l hv e τ hne hq=>?_)
 ·exact ZK (ZA @NQ.eq_1 (ZA @cz.eq_1 (ZA hC_fZ0.2 ((dE hC_fZ0)))))
 ·subst hv;simp only[] at h;simp only[ZC,cz,ML];cases h;exact ZL trivial (ZA @V85.eq_1 (ZA hC_fZ0.2 ((dE hC_fZ0))))
 ·subst hv;simp only[] at h;obtain⟨rfl,j⟩:=hq;cases h;exact j
def Yb(a:List af)(c:af->Option Bool){r:Bool}(h:xo a c=some r)(F_fZ0:Nat)(C_fZ0:List AV)(hC_fZ0:tP C_fZ0)(hf_fZ0:∀(x0:af)(r:Bool),c x0=some r->Ok A1 F_fZ0 ((.agg [.i x0.Id,.i x0.F.N,.lst .o 1 (x0.F.F.map AV.i),.i x0.N.N,.i x0.N.F])::C_fZ0) (.b r)):Ok A1 65 [.lst .o 5 (a.map (ai .o)),.fn F_fZ0 C_fZ0] (.b r):=by
 refine bJ cr m65 rfl ?_;unfold xo at h;simp only[ZC,A65,V85,dg];obtain⟨g,d,h⟩:=ar h;refine ZF trivial ?_;refine ZSG hC_fZ0.1 (aez _ _ d F_fZ0 C_fZ0 hC_fZ0 hf_fZ0) ?_;cases h;exact ZL trivial (ZA @V85.eq_1 (ZA hC_fZ0.2 ((dE hC_fZ0))))
def Ip(a:aB)(v:Int):St:=⟨[(1,.pt 1 0 0),(16,.lst .o 5 (a.N.map (ai .o))),(17,.i (a.N.length:Int)),(18,.i v)],[(1,.var (bv .o a))]⟩
instance(g:aB):CL (HX g) QF [1,16,17,18] [1] (Ip g) (qS (qX 0 [] [] (cz)) (qR V91 (fun r=>.b r))):=⟨fun q o h=>by
 unfold HX at h;simp only[ZC,Ip,QF];obtain⟨j,h⟩|⟨j,h⟩:=aM h
 ·obtain⟨a,t,h⟩:=ar h;obtain⟨m1,u,h⟩:=ar h;have f:=ZA j (ec t);refine ZF f ?_;refine ZSG f (CW.w _ u) ?_;obtain⟨c,h⟩|⟨c,h⟩:=aM h
  ·cases h;exact ZL (ZA f c) @V91.eq_1
  ·obtain⟨d,h⟩|⟨d,h⟩:=aM h
   ·obtain⟨p1,s,h⟩:=ar h;obtain⟨l,h⟩|⟨l,h⟩:=aM h
    ·cases h;exact ZL (ZA f (ZA c (ZA d (ZA (ec s) l)))) @V91.eq_1
    ·obtain⟨q1,v,h⟩:=ar h;obtain⟨w,x,y,z,a1⟩:=FS (ai .o) v;obtain⟨s1,b1,h⟩:=ar h;have f:=ZA f (ZA c (ZA d (ZA (ec s) (ZA l (ZA w (ZA x (ZA y (ZA z a1))))))));refine ZF f ?_;refine ZSG f (Yb _ _ b1 130 [.bp .o (.agg [.i a.Id,.i a.F.N,.lst .o 1 (a.F.F.map AV.i),.i a.N.N,.i a.N.F]) 0] ⟨fun ρ k=>by simp only[VS1,VS2,VS3,VS4,VS5,VS6,VT1,VT2,bj,bl,decide_true,decide_false,A9,A8,cG,cF,cE,ne_eq,not_false_eq_true,B0,B1,true_and,false_and,A5,A6,↓reduceIte,reduceCtorEq,A2,A7,A3,B2],by simp[aK,AV.ments]⟩ (fun _ _ h=>abp _ _ h)) ?_;obtain⟨m,h⟩|⟨m,h⟩:=aM h
     ·cases h;exact ZL (ZA f m) @V91.eq_1
     ·cases h;exact ZL (ZA f m) (ZA @Ip.eq_1 @cz.eq_1)
   ·obtain⟨t1,c1,h⟩:=ar h;obtain⟨d1,g1,i1,j1,k1⟩:=FS (ai .o) c1;obtain⟨u1,l1,h⟩:=ar h;have f:=ZA f (ZA c (ZA d (ZA d1 (ZA g1 (ZA i1 (ZA j1 k1))))));refine ZF f ?_;refine ZSG f (Yb _ _ l1 130 [.bp .o (.agg [.i a.Id,.i a.F.N,.lst .o 1 (a.F.F.map AV.i),.i a.N.N,.i a.N.F]) 0] ⟨fun ρ k=>by simp only[VS1,VS2,VS3,VS4,VS5,VS6,VT1,VT2,bj,bl,decide_true,decide_false,A9,A8,cG,cF,cE,ne_eq,not_false_eq_true,B0,B1,true_and,false_and,A5,A6,↓reduceIte,reduceCtorEq,A2,A7,A3,B2],by simp[aK,AV.ments]⟩ (fun _ _ h=>abp _ _ h)) ?_;obtain⟨p,h⟩|⟨p,h⟩:=aM h
    ·cases h;exact ZL (ZA f p) @V91.eq_1
    ·cases h;exact ZL (ZA f p) (ZA @Ip.eq_1 @cz.eq_1)
 ·cases h;exact ZL j (ZA @Ip.eq_1 @cz.eq_1)⟩
instance(a:aB):CW (zo a) (fun(r:Bool)=>Ok A1 63 [(bv .o a)] (.b r)):=⟨fun r h=>ZO m63 (zo.eq_1 _) ZJ (ZA @Ip.eq_1 (ZA @cz.eq_1 (ZA @Yv.eq_1 (ZA @ZR.eq_1 (ZA @V91.eq_1 @A63.eq_1))))) h⟩
instance(a:ah):CW (Xh a) (fun(r:ah)=>Ok A1 157 [(aG .o a)] (.agg [.lst .u 1 (r.N.map AV.z),.lst .u 4 (r.F.map (au .u))])):=⟨fun r h=>ZO m157 (Xh.eq_1 _) trivial (ZA @V37.eq_1 @A157.eq_1) h⟩
instance(a:aj):CW (zO a) (fun(r:aj)=>Ok A1 108 [(ay .o a)] (.agg [.i r.N,.lst .u 1 (r.F.map AV.i)])):=⟨fun r h=>ZO m108 (zO.eq_1 _) trivial (ZA @V37.eq_1 @A108.eq_1) h⟩
def UX(b:aB)(a:ah)(v:Int×List af):St:=⟨[(2,.pt 2 0 0),(3,.pt 3 0 0),(11,.lst .o 5 (b.N.map (ai .o))),(12,.i (b.N.length:Int)),(13,.i v.1)],[(2,.var (.agg [.lst .u 1 [],.lst .u 4 [],.lst .u 5 []])),(3,.var (.agg [.sl 500000192 0 a.N.length,.sl 500000193 0 a.F.length,.sl 500000194 0 v.2.length])),(500000192,.arr 1 (a.N.map AV.z)),(500000193,.arr 4 (a.F.map (au .u))),(500000194,.arr 5 (v.2.map (ai .u)))]⟩
instance(c:aB):CX (HA c) Fa [2,3,11,12,13] [2,3,500000192,500000193,500000194] (ah) (fun d=>(UX c d)) (fun d=>(qX 0 [2,3] [2,3,500000192,500000193,500000194] (Ji d))):=⟨fun d a o h=>by
 unfold HA at h;simp only[ZC,UX,Fa];exact ZT ZJB (ZA @UX.eq_1 (ZA @Ji.eq_1 @Fa.eq_1)) h⟩
instance(a:aB):CW (Cx a) (fun(r:aB)=>Ok A1 98 [(bv .o a)] (.agg [.lst .u 1 (r.F.N.map AV.z),.lst .u 4 (r.F.F.map (au .u)),.lst .u 5 (r.N.map (ai .u))])):=⟨fun r h=>ZO m98 (Cx.eq_1 _) ZJ (ZA @UX.eq_1 (ZA @Ji.eq_1 (ZA @YJ.eq_1 (ZA @V26.eq_1 @A98.eq_1)))) h⟩
instance(a:List Int):CW (TV a) (fun(r:List Int)=>Ok A1 142 [.lst .o 1 (a.map AV.i)] (.lst .u 1 (r.map AV.i))):=⟨fun r h=>ZO m142 (TV.eq_1 _) trivial (ZA @V91.eq_1 @A142.eq_1) h⟩
instance(a:ae):CW (sv a) (fun(r:ae)=>Ok A1 77 [(aI .o a)] (.agg [.lst .u 1 (r.F.F.N.map AV.z),.lst .u 4 (r.F.F.F.map (au .u)),.lst .u 5 (r.F.N.map (ai .u)),.lst .u 5 (r.N.map (ai .u)),.lst .u 1 (r.L.map AV.i)])):=⟨fun r h=>ZO m77 (sv.eq_1 _) trivial (ZA @Av.eq_1 @A77.eq_1) h⟩
instance(c:aB):CW (Rs c) (fun(r:ae×Bool)=>Ok A1 27 [(bv .o c)] (.tup [.agg [.lst .u 1 (r.1.F.F.N.map AV.z),.lst .u 4 (r.1.F.F.F.map (au .u)),.lst .u 5 (r.1.F.N.map (ai .u)),.lst .u 5 (r.1.N.map (ai .u)),.lst .u 1 (r.1.L.map AV.i)],.b r.2])):=⟨fun r h=>ZO m27 (Rs.eq_1 _) trivial (ZA @V25.eq_1 @A27.eq_1) h⟩
def Us(a:List Int)(b:Int)(v:Int):St:=⟨[(0,.lst .o 1 (a.map AV.i)),(1,.i b),(7,.lst .o 1 (a.map AV.i)),(8,.i (a.length:Int)),(9,.i v)],[]⟩
instance(d:List Int)(g:Int):CL (Kx d g) EL [0,1,7,8,9] [] (Us d g) (qS (qX 0 [] [] (cz)) (qR V85 (fun r=>.b r))):=⟨fun k o h=>by
 unfold Kx at h;simp only[ZC,Us,EL];exact ZT trivial (ZA @Us.eq_1 (ZA @cz.eq_1 (ZA @V85.eq_1 @EL.eq_1))) h⟩
instance(a:List Int)(c:Int):CW (JV a c) (fun(r:Bool)=>Ok A1 64 [.lst .o 1 (a.map AV.i),.i c] (.b r)):=⟨fun r h=>ZO m64 (JV.eq_1 _ _) ZJ (ZA @Us.eq_1 (ZA @cz.eq_1 (ZA @Zp.eq_1 (ZA @V85.eq_1 @A64.eq_1)))) h⟩
theorem w_ec(a:af)(p1Z0:Int){r:Bool}(h:Sc a p1Z0=some r):Ok A1 134 [(ai .o a),.bp .o (.i p1Z0) 0] (.b r):=ZO m134 (Sc.eq_1 _ _) trivial (ZA @qB.eq_1 @A134.eq_1) h
instance(a:af)(p1Z0:Int):CW (Sc a p1Z0) (fun(r:Bool)=>Ok A1 134 [(ai .o a),.bp .o (.i p1Z0) 0] (.b r)):=⟨fun r h=>w_ec a p1Z0 h⟩
instance(a:ae)(b:Int):CW (Cp a b) (fun(r:Int)=>Ok A1 67 [(aI .o a),.i b] (.i r)):=⟨fun r h=>by
 refine bJ cr m67 rfl ?_;unfold Cp at h;simp only[ZC,A67,V85,dg];obtain⟨d,c,h⟩:=ar h;refine ZF trivial ?_;refine ZSG trivial (aez _ _ c 134 [.bp .o (.i b) 0] ⟨fun ρ k=>by simp only[VS1,VS2,VS3,VS4,VS5,VS6,VT1,VT2,bj,bl,decide_true,decide_false,A9,A8,cG,cF,cE,ne_eq,not_false_eq_true,B0,B1,true_and,false_and,A5,A6,↓reduceIte,reduceCtorEq,A2,A7,A3,B2],by simp[aK,AV.ments]⟩ (fun _ _ h=>w_ec _ _ h)) ?_;cases h;exact ZL trivial @V85.eq_1⟩
instance(a:ah)(b:aj):CW (Cn a b) (fun(r:Int)=>Ok A1 69 [(aG .o a),(ay .o b)] (.i r)):=⟨fun r h=>ZO m69 (Cn.eq_1 _ _) trivial (ZA @V85.eq_1 @A69.eq_1) h⟩
theorem w_dn(a:af)(p1Z0:ae)(p2Z0:ah){r:Bool}(h:Gm a p1Z0 p2Z0=some r):Ok A1 66 [(ai .o a),.bp .o (aI .o p1Z0) 0,.bp .o (aG .o p2Z0) 0] (.b r):=by
 refine bJ cr m66 rfl ?_;unfold Gm at h;simp only[ZC,A66,V85,dg];obtain⟨l,m,h⟩:=ar h;refine ZF trivial ?_;refine ZSG trivial (CW.w _ m) ?_;obtain⟨p,q,h⟩:=ar h;try refine ZF trivial ?_
 refine ba (sh:=(fun v=>⟨[(1,.bp .o (aI .o p1Z0) 0),(2,.bp .o (aG .o p2Z0) 0),(3,.pt 3 0 0),(5,.i l),(22,.b v)],[(3,.var (ai .o a))]⟩)) (s:=p) ?_ ?_
 ·replace h:=q;obtain⟨c,h⟩|⟨c,h⟩:=aM h
  ·cases h;exact ZL c trivial
  ·obtain⟨x,t,h⟩:=ar h;refine ZF c ?_;refine ZUG c (CW.w _ t) ?_;cases h;exact ZL c trivial
 ·simp only[ZC,aai];obtain⟨d,h⟩|⟨d,h⟩:=aM h
  ·cases h;exact ZL d @V85.eq_1
  ·obtain⟨y,k,h⟩:=ar h;obtain⟨g,h⟩|⟨g,h⟩:=aM h
   ·cases h;exact ZL (ZA d (ZA (ec k) g)) @V85.eq_1
   ·obtain⟨a1,u,h⟩:=ar h;have f:=ZA d (ZA (ec k) g);refine ZF f ?_;refine ZSG f (CW.w _ u) ?_;obtain⟨b1,w,h⟩:=ar h;refine ZF f ?_;refine ZSG f (CW.w _ w) ?_;obtain⟨j,h⟩|⟨j,h⟩:=aM h
    ·cases h;exact ZL (ZA f j) @V85.eq_1
    ·cases h;exact ZL (ZA f j) @V85.eq_1
instance(a:af)(p1Z0:ae)(p2Z0:ah):CW (Gm a p1Z0 p2Z0) (fun(r:Bool)=>Ok A1 66 [(ai .o a),.bp .o (aI .o p1Z0) 0,.bp .o (aG .o p2Z0) 0] (.b r)):=⟨fun r h=>w_dn a p1Z0 p2Z0 h⟩
instance(a:ae):CW (Bh a) (fun(r:Bool)=>Ok A1 16 [(aI .o a)] (.b r)):=⟨fun r h=>by
 refine bJ cr m16 rfl ?_;unfold Bh at h;simp only[ZC,A16,V91,dg];obtain⟨j,l,h⟩:=ar h;try refine ZF trivial ?_
 refine ba (sh:=(fun v=>⟨[(1,.pt 1 0 0),(3,.pt 3 0 0),(27,.b v)],[(1,.var (aI .o a)),(3,.var (aG .o a.F.F))]⟩)) (s:=j) ?_ ?_
 ·replace h:=l;obtain⟨u,m,h⟩:=ar h;refine ZF trivial ?_;refine ZSG trivial (CW.w _ m) ?_;obtain⟨c,h⟩|⟨c,h⟩:=aM h
  ·cases h;exact ZL c trivial
  ·obtain⟨w,p,h⟩:=ar h;refine ZF c ?_;refine ZSG c (CW.w _ p) ?_;obtain⟨g,h⟩|⟨g,h⟩:=aM h
   ·cases h;exact ZL (ZA c g) trivial
   ·obtain⟨x,q,h⟩:=ar h;have f:=ZA c g;refine ZF f ?_;refine ZSG f (CW.w _ q) ?_;cases h;exact ZL f trivial
 ·simp only[ZC,Yz];obtain⟨d,h⟩|⟨d,h⟩:=aM h
  ·cases h;exact ZL d @V91.eq_1
  ·obtain⟨y,t,h⟩:=ar h;refine ZF d ?_;refine ZSG d (Yb _ _ t 66 [.bp .o (.agg [.lst .o 1 (a.F.F.N.map AV.z),.lst .o 4 (a.F.F.F.map (au .o)),.lst .o 5 (a.F.N.map (ai .o)),.lst .o 5 (a.N.map (ai .o)),.lst .o 1 (a.L.map AV.i)]) 0,.bp .o (.agg [.lst .o 1 (a.F.F.N.map AV.z),.lst .o 4 (a.F.F.F.map (au .o))]) 0] ⟨fun ρ k=>by simp only[VS1,VS2,VS3,VS4,VS5,VS6,VT1,VT2,bj,bl,decide_true,decide_false,A9,A8,cG,cF,cE,ne_eq,not_false_eq_true,B0,B1,true_and,false_and,A5,A6,↓reduceIte,reduceCtorEq,A2,A7,A3,B2],by simp[aK,AV.ments]⟩ (fun _ _ h=>w_dn _ _ _ h)) ?_;cases h;exact ZL d @V91.eq_1⟩
instance(a:ae)(d:List Int):CW (Dy a d) (fun(r:Bool)=>Ok A1 81 [(aI .o a),.lst .o 1 (d.map AV.i)] (.b r)):=⟨fun r h=>ZO m81 (Dy.eq_1 _ _) trivial (ZA @V85.eq_1 @A81.eq_1) h⟩
instance(a:Int):CW (Mb a) (fun(r:Nat×Nat×List Int)=>OkM A1 170 [.lst .u 1 [],.i a] [] (.sl 4 r.1 r.2.1) ([(4,.arr 1 (r.2.2.map AV.i))])):=⟨fun r h=>by
 refine bw (lr:=[4]) cr agj rfl rfl ?_;unfold Mb at h;simp only[ZC,Ma,V85];obtain⟨b,h⟩|⟨b,h⟩:=aM h
 ·cases h
 ·obtain⟨c,h⟩|⟨c,h⟩:=aM h
  ·obtain⟨m,g,h⟩:=ar h;obtain⟨j,d,h⟩:=bg h;have k:List.replicate (B3 (IntKind.wrap .i64 (a-(IntKind.wrap .i64 (0-((0:Nat):Int)))))) (.i 0:AV)=j.map AV.i:=by rw[<-d,List.map_replicate]
   obtain⟨p,l,h⟩:=ar h;cases h;exact ZL (ZA b (ZA c (ZA (bq g) (ZA k (bq l))))) (ZA @V85.eq_1 (ZA d.symm @Zr))
  ·cases h;exact ZL (ZA b c) @V85.eq_1⟩
def S_z(a:List (List Int))(v:Int×Int):St:=⟨[(0,.lst .o 1 (a.map (iM .o))),(3,.i v.1),(9,.lst .o 1 (a.map (iM .o))),(10,.i (a.length:Int)),(11,.i v.2)],[]⟩
def TH(a:List (List Int))(v:Int):St:=⟨[(0,.lst .o 1 (a.map (iM .o))),(3,.i v)],[]⟩
instance(a:List (List Int)):CL (M_z a) DD [0,3,9,10,11] [] (S_z a) (qX 0 [0,3] [] (TH a)):=⟨fun c o h=>by
 have e:=ZA @S_z.eq_1 @TH.eq_1;unfold M_z at h;simp only[ZC,S_z,DD];obtain⟨b,h⟩|⟨b,h⟩:=aM h
 ·obtain⟨i,g,h⟩:=ar h;obtain⟨d,h⟩|⟨d,h⟩:=aM h
  ·cases h
  ·cases h;exact ZL (ZA b (ZA (ec g) d)) e
 ·cases h;exact ZL b e⟩
def Xe(a:List (List Int))(v:Nat×Nat×Int×List Int):St:=⟨[(6,.sl 6 v.1 v.2.1),(25,.lst .o 1 (a.map (iM .o))),(26,.i (a.length:Int)),(27,.i v.2.2.1)],[(6,.arr 1 (v.2.2.2.map AV.i))]⟩
def FN(v:Nat×Nat×List Int):St:=⟨[(6,.sl 6 v.1 v.2.1)],[(6,.arr 1 (v.2.2.map AV.i))]⟩
instance(b:List (List Int)):CL (Qm b) wQ [6,25,26,27] [6] (Xe b) (qX 2 [6] [6] (FN)):=⟨fun a o h=>by
 unfold Qm at h;simp only[ZC,Xe,wQ];exact ZT ZJB (ZA @Xe.eq_1 (ZA @FN.eq_1 @wQ.eq_1)) h⟩
instance(a:List (List Int)):CW (Sd a) (fun(r:List Int)=>Ok A1 110 [.lst .o 1 (a.map (iM .o))] (.lst .u 1 (r.map AV.i))):=⟨fun r h=>by
 refine bJ cr m110 rfl ?_;unfold Sd at h;simp only[ZC,A110,V91,dg];obtain⟨m,c,h⟩:=ar h;try refine ZF trivial ?_
 refine ba (bP (bf CL.w c ?_)) ?_
 ·exact ZK (ZA @S_z.eq_1 @TH.eq_1)
 ·simp only[ZC,TH,NS];obtain⟨p,d,h⟩:=ar h;refine ZF trivial ?_;refine ZWG trivial (CW.w _ d) [4] [2500004] ?_;obtain⟨b,g,h⟩:=ar h;try refine ZF trivial ?_
  refine ba (bP (bf CL.w g ?_)) ?_
  ·exact ZK (ZA @Xe.eq_1 @FN.eq_1)
  ·simp only[ZC,FN,Sl];obtain⟨j,k,h⟩:=bg h;have l:sub (b.2.2.map AV.i) b.1 b.2.1=j.map AV.i:=by rw[bz,k]
   cases h;exact ZL l @V91.eq_1⟩
instance(a:af)(l:List Int)(c:List Int):CW (lF a l c) (fun(r:Bool×List Int×List Int)=>OkM A1 114 [(ai .s a),.pt 1000000000 0 0,.pt 1000000001 0 0] [(1000000000,.var (.lst .o 1 (l.map AV.i))),(1000000001,.var (.sl 1000000002 0 c.length)),(1000000002,.arr 1 (c.map AV.i))] (.b r.1) ([(470000064,.arr 1 (r.2.2.map AV.i)),(1000000000,.var (.lst .o 1 (r.2.1.map AV.i))),(1000000001,.var (.sl 470000064 0 r.2.2.length))])):=⟨fun r h=>by
 refine bw (lr:=[470000064,1000000000,1000000001]) cr afv rfl rfl ?_;unfold lF at h;simp only[ZC,Sv,V85];exact ZT ZJB @V85.eq_1 h⟩
def S_r{H:World->Prop}(a:List (Tok H ai 5))(v:Int×List Int×List Int):St:=⟨[(0,.sl 1000000000 0 a.length),(1,.fn 114 [.pt 1000000001 0 0,.pt 1000000002 0 0]),(7,.i (a.length:Int)),(8,.i v.1)],[(470000128,.arr 1 (v.2.2.map AV.i)),(1000000000,.arr 5 (a.map co)),(1000000001,.var (.lst .o 1 (v.2.1.map AV.i))),(1000000002,.var (.sl 470000128 0 v.2.2.length))]⟩
def XS{H:World->Prop}(a:List (Tok H ai 5))(v:List Int×List Int):St:=⟨[],[(470000128,.arr 1 (v.2.map AV.i)),(1000000000,.arr 5 (a.map co)),(1000000001,.var (.lst .o 1 (v.1.map AV.i))),(1000000002,.var (.sl 470000128 0 v.2.length))]⟩
def w_r{H:World->Prop}(a:List (Tok H ai 5))(d:Int×List Int×List Int)(o:(Int×List Int×List Int)⊕((List Int×List Int)⊕(Int×List (Tok H ai 5)×List Int×List Int)))(h:M_r Tok.x gr a d=some o):AWP (OkT H A1) rO (qL [0,1,7,8] [470000128,1000000000,1000000001,1000000002] (S_r a) (qS (qX 0 [] [470000128,1000000000,1000000001,1000000002] (XS a)) (qM V85 [470000128,1000000000,1000000001,1000000002] (fun(r:Int×List (Tok H ai 5)×List Int×List Int)=>.i r.1) (fun(r:Int×List (Tok H ai 5)×List Int×List Int)=>[(470000128,.arr 1 (r.2.2.2.map AV.i)),(1000000000,.arr 5 (r.2.1.map co)),(1000000001,.var (.lst .o 1 (r.2.2.1.map AV.i))),(1000000002,.var (.sl 470000128 0 r.2.2.2.length))]))) o) (S_r a d):=by
 have e:=ZA @S_r.eq_1 @XS.eq_1;unfold M_r at h;simp only[ZC,S_r,rO];obtain⟨b,h⟩|⟨b,h⟩:=aM h
 ·obtain⟨m,g,h⟩:=ar h;obtain⟨j,k,h⟩:=ar h;obtain⟨p,l,h⟩:=ar h;have f:=ZA vE (ZA uS (ZA b (ZA (bq g) k)));refine ZF f ?_;refine ZWG f (yi j (CW.w _ l:)) [470000064,1000000000,1000000001] [471700064] ?_;obtain⟨c,h⟩|⟨c,h⟩:=aM h
  ·cases h;exact ZL (ZA f c) @V85.eq_1
  ·cases h;exact ZL (ZA f c) e
 ·cases h;exact ZL (ZA vE (ZA uS b)) e
def w_dw{H:World->Prop}(a:List (Tok H ai 5))(c:List Int)(b:List Int){r:Int×List (Tok H ai 5)×List Int×List Int}(h:GK Tok.x gr a c b=some r):vL H A1 133 [.sl 1000000000 0 a.length,.fn 114 [.pt 1000000001 0 0,.pt 1000000002 0 0]] [(1000000000,.arr 5 (a.map co)),(1000000001,.var (.lst .o 1 (c.map AV.i))),(1000000002,.var (.sl 1000000003 0 b.length)),(1000000003,.arr 1 (b.map AV.i))] (.i r.1) ([(470000128,.arr 1 (r.2.2.2.map AV.i)),(1000000000,.arr 5 (r.2.1.map co)),(1000000001,.var (.lst .o 1 (r.2.2.1.map AV.i))),(1000000002,.var (.sl 470000128 0 r.2.2.2.length))]):=by
 refine kz (lr:=[470000128,1000000000,1000000001,1000000002]) cr ael rfl rfl ?_;unfold GK at h;simp only[ZC,OO,V85];obtain⟨d,g,h⟩:=ar h;have f:=ZA vE uS;try refine ZF f ?_
 refine gw (o:=d) (gG LL (bf (w_r a) g ?_)) (fun k hv=>?_) (fun l hv e τ hne hq=>?_)
 ·exact ZK (ZA @S_r.eq_1 @XS.eq_1)
 ·subst hv;simp only[] at h;simp only[ZC,XS,AM];cases h;exact ZL f @V85.eq_1
 ·subst hv;simp only[] at h;obtain⟨rfl,j⟩:=hq;cases h;exact j
def S_s{H:World->Prop}(a:List (Tok H ai 5))(v:Int×Int×List (Tok H ai 5)×List Int×List Int):St:=⟨[(0,.sl 1000000000 0 a.length),(1,.fn 114 [.pt 1000000001 0 0,.pt 1000000002 0 0]),(5,.i v.1),(6,.i v.2.1)],[(470000128,.arr 1 (v.2.2.2.2.map AV.i)),(1000000000,.arr 5 (v.2.2.1.map co)),(1000000001,.var (.lst .o 1 (v.2.2.2.1.map AV.i))),(1000000002,.var (.sl 470000128 0 v.2.2.2.2.length))]⟩
def TA{H:World->Prop}(a:List (Tok H ai 5))(v:Int×List (Tok H ai 5)×List Int×List Int):St:=⟨[(0,.sl 1000000000 0 a.length),(5,.i v.1)],[(470000128,.arr 1 (v.2.2.2.map AV.i)),(1000000000,.arr 5 (v.2.1.map co)),(1000000001,.var (.lst .o 1 (v.2.2.1.map AV.i))),(1000000002,.var (.sl 470000128 0 v.2.2.2.length))]⟩
def w_s{H:World->Prop}(a:List (Tok H ai 5))(b:Int×Int×List (Tok H ai 5)×List Int×List Int)(o:(Int×Int×List (Tok H ai 5)×List Int×List Int)⊕(Int×List (Tok H ai 5)×List Int×List Int))(h:M_s Tok.x gr a b=some o):AWP (OkT H A1) rF (qL [0,1,5,6] [470000128,1000000000,1000000001,1000000002] (S_s a) (qX 0 [0,5] [470000128,1000000000,1000000001,1000000002] (TA a)) o) (S_s a b):=by
 have e:=ZA @S_s.eq_1 @TA.eq_1;unfold M_s at h;simp only[ZC,S_s,rF];obtain⟨c,h⟩|⟨c,h⟩:=aM h
 ·obtain⟨t,j,h⟩:=ar h;obtain⟨g,k,h⟩:=ar h;obtain⟨u,l,h⟩:=ar h;have f:=ZA vE (ZA uS (ZA c (ZA (bq j) k)));refine ZF f ?_;refine ZWG f (yi g (CW.w _ l:)) [470000064,1000000000,1000000001] [472900064] ?_;obtain⟨d,h⟩|⟨d,h⟩:=aM h
  ·obtain⟨v,m,h⟩:=ar h;obtain⟨w,p,h⟩:=ar h;obtain⟨q,i,h⟩:=bg h;have s:(b.2.2.1.map co).set (B3 b.1) ((co g))=q.map co:=by rw[<-i,List.map_set]
   cases h;exact ZL (ZA f (ZA d (ZA (bq m) (ZA p s)))) (ZA e i.symm)
  ·cases h;exact ZL (ZA f d) e
 ·cases h;exact ZL (ZA vE (ZA uS c)) e
theorem w_bl{H:World->Prop}(a:List (Tok H ai 5))(g:List Int)(c:List Int){r:Nat×Nat×List (Tok H ai 5)×List Int×List Int}(h:rH Tok.x gr a g c=some r):vL H A1 113 [.sl 1000000000 0 a.length,.fn 114 [.pt 1000000001 0 0,.pt 1000000002 0 0]] [(1000000000,.arr 5 (a.map co)),(1000000001,.var (.lst .o 1 (g.map AV.i))),(1000000002,.var (.sl 1000000003 0 c.length)),(1000000003,.arr 1 (c.map AV.i))] (.sl 4 r.1 r.2.1) ([(4,.arr 5 (r.2.2.1.map co)),(470000128,.arr 1 (r.2.2.2.2.map AV.i)),(1000000001,.var (.lst .o 1 (r.2.2.2.1.map AV.i))),(1000000002,.var (.sl 470000128 0 r.2.2.2.2.length))]):=by
 refine kz (lr:=[4,470000128,1000000001,1000000002]) cr adq rfl rfl ?_;unfold rH at h;simp only[ZC,Rd,V85];obtain⟨u,m,h⟩:=ar h;have f:=ZA vE uS;refine ZF f ?_;refine ZWG f (w_dw _ _ _ m) [470000128,1000000000,1000000001,1000000002] [471100128] ?_;obtain⟨d,h⟩|⟨d,h⟩:=aM h
 ·cases h;exact ZL (ZA f d) @V85.eq_1
 ·obtain⟨b,p,h⟩:=ar h;have f:=ZA f d;try refine ZF f ?_
  refine ba (bP (bf (w_s a) p ?_)) ?_
  ·exact ZK (ZA @S_s.eq_1 @TA.eq_1)
  ·simp only[ZC,TA,Ay];obtain⟨v,q,h⟩:=ar h;obtain⟨j,k,h⟩:=bg h;have l:dz (b.2.1.map co) (B3 b.1) (List.replicate (a.length-(B3 b.1)) (.agg [.i 0,.i 0,.sc (.slice none 0 0),.i 0,.i 0]:AV))=j.map co:=by rw[<-k,<-sq]<;>simp[List.map_take,zW]
   try simp only[Int.toNat_natCast] at l
   have s:j.length=b.2.1.length:=by rw[<-k];exact iV _ _ _
   obtain⟨w,t,h⟩:=ar h;cases h;exact ZL (ZA f (ZA (bq q) (ZA l (bq t)))) (ZA @V85.eq_1 s)
instance(b:List af)(c:List Int)(a:List Int):CW (rH id (⟨0,(⟨0,[]⟩:aj),(⟨0,0⟩:aX)⟩:af) b c a) (fun(r:Nat×Nat×List af×List Int×List Int)=>OkM A1 113 [.sl 1000000000 0 b.length,.fn 114 [.pt 1000000001 0 0,.pt 1000000002 0 0]] [(1000000000,.arr 5 (b.map (ai .u))),(1000000001,.var (.lst .o 1 (c.map AV.i))),(1000000002,.var (.sl 1000000003 0 a.length)),(1000000003,.arr 1 (a.map AV.i))] (.sl 4 r.1 r.2.1) ([(4,.arr 5 (r.2.2.1.map (ai .u))),(470000128,.arr 1 (r.2.2.2.2.map AV.i)),(1000000001,.var (.lst .o 1 (r.2.2.2.1.map AV.i))),(1000000002,.var (.sl 470000128 0 r.2.2.2.2.length))])):=⟨fun r h=>by
 refine MM (E:=ai) (k:=5) (R:=1000000000) (R':=4) (xs:=b) (ys:=r.2.2.1) (ins:=[(1000000000,.arr 5 (b.map (ai .u))),(1000000001,.var (.lst .o 1 (c.map AV.i))),(1000000002,.var (.sl 1000000003 0 a.length)),(1000000003,.arr 1 (a.map AV.i))]) (outsR:=(fun(r:Nat×Nat×List af×List Int×List Int)=>[(4,.arr 5 (r.2.2.1.map (ai .u))),(470000128,.arr 1 (r.2.2.2.2.map AV.i)),(1000000001,.var (.lst .o 1 (r.2.2.2.1.map AV.i))),(1000000002,.var (.sl 470000128 0 r.2.2.2.2.length))]) r) (fun x=>⟨_,rfl,rfl⟩) (by decide) (fun w S B v x fp h B'=>Hg x▸h.shs B') rfl (fun _ _=>rfl) rfl (fun _ _=>rfl) (Vr (by simp[Row.flatU,AV.noU])) fun H d hX=>?_;subst hX;obtain⟨g,h1,h2,h3⟩:=gV d c a h;have hw:=w_bl d c a h1;try simp only[List.length_map]
 exact⟨g,_,_,h2,h3,rfl,fun q hq=>by simp only[az,if_neg (Ne.symm hq)],rfl,fun q hq=>by simp only[az,if_neg (Ne.symm hq)],hw⟩⟩
instance(a:ae)(j:List Int):CW (KO a j) (fun(r:ae×List Int×Bool)=>Ok A1 48 [(aI .o a),.lst .o 1 (j.map AV.i)] (.tup [.agg [.lst .u 1 (r.1.F.F.N.map AV.z),.lst .u 4 (r.1.F.F.F.map (au .u)),.lst .u 5 (r.1.F.N.map (ai .u)),.lst .u 5 (r.1.N.map (ai .u)),.lst .u 1 (r.1.L.map AV.i)],.lst .u 1 (r.2.1.map AV.i),.b r.2.2])):=⟨fun r h=>by
 refine bJ cr m48 rfl ?_;unfold KO at h;simp only[ZC,A48,V48,dg];obtain⟨m1,v,h⟩:=ar h;refine ZF trivial ?_;refine ZSG trivial (CW.w _ v) ?_;obtain⟨c,h⟩|⟨c,h⟩:=aM h
 ·cases h;exact ZL c @V48.eq_1
 ·obtain⟨p1,w,h⟩:=ar h;refine ZF c ?_;refine ZUG c (CW.w _ w) ?_;obtain⟨g,d,h⟩:=bg h;have p:Row.arr 1 [(.lst .o 1 (a.L.map AV.i):AV),(.lst .o 1 (j.map AV.i):AV)]=Row.arr 1 (g.map (iM .o)):=by rw[<-d];rfl
  have k:g.length=2:=by rw[<-d];rfl
  have q:sub (g.map (iM .o)) 0 2=g.map (iM .o):=zQ _ (by simp[<-d]);obtain⟨s,x,h⟩:=ar h;have f:=ZA c (ZA p (ZA k q));refine ZF f ?_;refine ZUG f (CW.w _ x) ?_;obtain⟨y,t,h⟩:=ar h;have a1:y.length=s.length:=vz t;refine ZF f ?_;refine gm (by simp only[VS1,VS2,VS3,VS4,VS5,VS6,VT1,VT2,bj,bl,decide_true,decide_false,A9,A8,cG,cF,cE,ne_eq,not_false_eq_true,B0,B1,true_and,false_and,A5,A6,↓reduceIte,reduceCtorEq,A2,A7,A3,B2,c,p,k,q];exact(uX yC (xs:=s) (by simp[<-d]) t)) (by simp[VS1,VS2,VS3,VS4,VS5,VS6,VT1,VT2]) (by first|exact mV [1000000000] rfl (by decide+kernel)|simp[VS1,VS2,VS3,VS4,VS5,VS6,VT1,VT2]) ?_;refine ZG ?_;obtain⟨l,b1,h⟩:=ar h;refine ZF f ?_;refine ZWG f (CW.w _ b1) [1000000000] [] ?_;obtain⟨m,c1,h⟩:=ar h;refine ZF f ?_;refine ZWG f (CW.w _ c1) [4,470000128,1000000001,1000000002] [3500004,473500128] ?_;obtain⟨d1,g1,h⟩:=bg h;have i1:sub (m.2.2.1.map (ai .u)) m.1 m.2.1=d1.map (ai .u):=by rw[bz,g1]
  obtain⟨j1,k1,h⟩:=bg h;have l1:sub (l.2.2.map AV.i) l.1 l.2.1=j1.map AV.i:=by rw[bz,k1]
  cases h;exact ZL (ZA f (ZA i1 l1)) (ZA @V48.eq_1 (ZA d.symm (ZA a1 k)))⟩
theorem w_by(a:Int)(p1Z0:List Int){r:Bool}(h:xm a p1Z0=some r):Ok A1 83 [.i a,.bp .o (.lst .o 1 (p1Z0.map AV.i)) 0] (.b r):=ZO m83 (xm.eq_1 _ _) trivial (ZA @qB.eq_1 @A83.eq_1) h
instance(a:Int)(p1Z0:List Int):CW (xm a p1Z0) (fun(r:Bool)=>Ok A1 83 [.i a,.bp .o (.lst .o 1 (p1Z0.map AV.i)) 0] (.b r)):=⟨fun r h=>w_by a p1Z0 h⟩
def Rn(a:List Int)(F_fZ0:Nat)(C_fZ0:List AV)(v:Int):St:=⟨[(0,.lst .o 1 (a.map AV.i)),(1,.fn F_fZ0 C_fZ0),(7,.i (a.length:Int)),(8,.i v)],[]⟩
def w_ah(c:List Int)(j:Int->Option Bool)(F_fZ0:Nat)(C_fZ0:List AV)(hC_fZ0:tP C_fZ0)(hf_fZ0:∀(x0:Int)(r:Bool),j x0=some r->Ok A1 F_fZ0 ((.i x0)::C_fZ0) (.b r))(k:Int)(o:Int⊕(Unit⊕Int))(h:vY c j k=some o):AWP (OkS A1) BD (qL [0,1,7,8] [] (Rn c F_fZ0 C_fZ0) (qS (qX 0 [] [] (cz)) (qR V85 (fun r=>.i r))) o) (Rn c F_fZ0 C_fZ0 k):=by
 have e:=ZA @Rn.eq_1 @cz.eq_1;unfold vY at h;simp only[ZC,Rn,BD];obtain⟨a,h⟩|⟨a,h⟩:=aM h
 ·obtain⟨m,d,h⟩:=ar h;obtain⟨p,l,h⟩:=ar h;have f:=ZA a (ec d);refine ZF f ?_;have f:=ZA f hC_fZ0.1;refine ZSG f (hf_fZ0 _ _ l) ?_;obtain⟨g,h⟩|⟨g,h⟩:=aM h
  ·cases h;exact ZL (ZA a (ZA (ec d) g)) (ZA @V85.eq_1 (ZA hC_fZ0.2 ((dE hC_fZ0))))
  ·cases h;exact ZL (ZA a (ZA (ec d) g)) (ZA e (ZA hC_fZ0.2 ((dE hC_fZ0))))
 ·cases h;exact ZL a (ZA e (ZA hC_fZ0.2 ((dE hC_fZ0))))
def w_dk(a:List Int)(c:Int->Option Bool){r:Int}(h:Dd a c=some r)(F_fZ0:Nat)(C_fZ0:List AV)(hC_fZ0:tP C_fZ0)(hf_fZ0:∀(x0:Int)(r:Bool),c x0=some r->Ok A1 F_fZ0 ((.i x0)::C_fZ0) (.b r)):Ok A1 145 [.lst .o 1 (a.map AV.i),.fn F_fZ0 C_fZ0] (.i r):=by
 refine bJ cr m145 rfl ?_;unfold Dd at h;simp only[ZC,A145,V85,dg];obtain⟨d,g,h⟩:=ar h;try refine ZF trivial ?_
 refine gw (o:=d) (gG zd (bf (w_ah a c F_fZ0 C_fZ0 hC_fZ0 hf_fZ0) g ?_)) (fun k hv=>?_) (fun l hv e τ hne hq=>?_)
 ·exact ZK (ZA @Rn.eq_1 (ZA @cz.eq_1 (ZA hC_fZ0.2 ((dE hC_fZ0)))))
 ·subst hv;simp only[] at h;simp only[ZC,cz,QA];cases h;exact ZL trivial (ZA @V85.eq_1 (ZA hC_fZ0.2 ((dE hC_fZ0))))
 ·subst hv;simp only[] at h;obtain⟨rfl,j⟩:=hq;cases h;exact j
def Xs(a:List Int)(v:Int×Int×List Int):St:=⟨[(0,.sl 1000000000 0 v.2.2.length),(1,.fn 83 [.pt 1000000001 0 0]),(5,.i v.1),(6,.i v.2.1)],[(1000000000,.arr 1 (v.2.2.map AV.i)),(1000000001,.var (.lst .o 1 (a.map AV.i)))]⟩
def FV(a:List Int)(v:Int×List Int):St:=⟨[(0,.sl 1000000000 0 v.2.length),(5,.i v.1)],[(1000000000,.arr 1 (v.2.map AV.i)),(1000000001,.var (.lst .o 1 (a.map AV.i)))]⟩
instance(a:List Int):CL (Il a) qK [0,1,5,6] [1000000000,1000000001] (Xs a) (qX 0 [0,5] [1000000000,1000000001] (FV a)):=⟨fun b o h=>by
 unfold Il at h;simp only[ZC,Xs,qK];exact ZT ZJB (ZA @Xs.eq_1 (ZA @FV.eq_1 @qK.eq_1)) h⟩
instance(d:List Int)(b:List Int):CW (Pj d b) (fun(r:Nat×Nat×List Int×List Int)=>OkM A1 82 [.sl 1000000000 0 d.length,.fn 83 [.pt 1000000001 0 0]] [(1000000000,.arr 1 (d.map AV.i)),(1000000001,.var (.lst .o 1 (b.map AV.i)))] (.sl 1000000000 r.1 r.2.1) ([(1000000000,.arr 1 (r.2.2.1.map AV.i)),(1000000001,.var (.lst .o 1 (r.2.2.2.map AV.i)))])):=⟨fun r h=>by
 refine bw (lr:=[1000000000,1000000001]) cr ajh rfl rfl ?_;unfold Pj at h;simp only[ZC,YA,V85];obtain⟨u,m,h⟩:=ar h;refine ZF trivial ?_;refine ZSG trivial (w_dk _ _ m 83 [.bp .o (.lst .o 1 (b.map AV.i)) 0] ⟨fun ρ k=>by simp only[VS1,VS2,VS3,VS4,VS5,VS6,VT1,VT2,bj,bl,decide_true,decide_false,A9,A8,cG,cF,cE,ne_eq,not_false_eq_true,B0,B1,true_and,false_and,A5,A6,↓reduceIte,reduceCtorEq,A2,A7,A3,B2],by simp[aK,AV.ments]⟩ (fun _ _ h=>w_by _ _ h)) ?_;obtain⟨c,h⟩|⟨c,h⟩:=aM h
 ·cases h;exact ZL c @V85.eq_1
 ·obtain⟨a,p,h⟩:=ar h;try refine ZF c ?_
  refine ba (bP (bf CL.w p ?_)) ?_
  ·exact ZK (ZA @Xs.eq_1 @FV.eq_1)
  ·simp only[ZC,FV,EV];obtain⟨v,q,h⟩:=ar h;obtain⟨g,j,h⟩:=bg h;have l:dz (a.2.map AV.i) (B3 a.1) (List.replicate (a.2.length-(B3 a.1)) (.i 0:AV))=g.map AV.i:=by rw[<-j,<-sq]<;>simp[List.map_take]
   try simp only[Int.toNat_natCast] at l
   have s:g.length=a.2.length:=by rw[<-j];exact iV _ _ _
   obtain⟨w,t,h⟩:=ar h;cases h;exact ZL (ZA c (ZA (bq q) (ZA l (bq t)))) (ZA @V85.eq_1 s)⟩
instance(c:ae)(g:List Int):CW (Oa c g) (fun(r:ae×Bool)=>Ok A1 33 [(aI .o c),.lst .o 1 (g.map AV.i)] (.tup [.agg [.lst .u 1 (r.1.F.F.N.map AV.z),.lst .u 4 (r.1.F.F.F.map (au .u)),.lst .u 5 (r.1.F.N.map (ai .u)),.lst .u 5 (r.1.N.map (ai .u)),.lst .u 1 (r.1.L.map AV.i)],.b r.2])):=⟨fun r h=>by
 refine bJ cr m33 rfl ?_;unfold Oa at h;simp only[ZC,A33,jx,dg];obtain⟨s,j,h⟩:=ar h;refine ZF trivial ?_;refine ZSG trivial (CW.w _ j) ?_;obtain⟨a,h⟩|⟨a,h⟩:=aM h
 ·cases h;exact ZL a @jx.eq_1
 ·obtain⟨t,k,h⟩:=ar h;refine ZF a ?_;refine ZUG a (CW.w _ k) ?_;obtain⟨d,l,h⟩:=ar h;refine ZF a ?_;refine ZWG a (CW.w _ l) [1000000000,1000000001] [] ?_;obtain⟨m,p,h⟩:=bg h;have q:sub (d.2.2.1.map AV.i) d.1 d.2.1=m.map AV.i:=by rw[bz,p]
  cases h;exact ZL (ZA a q) @jx.eq_1⟩
theorem w_ee(a:af)(p1Z0:Int){r:Bool}(h:LW a p1Z0=some r):Ok A1 186 [(ai .o a),.bp .o (.i p1Z0) 0] (.b r):=ZO m186 (LW.eq_1 _ _) trivial (ZA @qB.eq_1 @A186.eq_1) h
instance(a:af)(p1Z0:Int):CW (LW a p1Z0) (fun(r:Bool)=>Ok A1 186 [(ai .o a),.bp .o (.i p1Z0) 0] (.b r)):=⟨fun r h=>w_ee a p1Z0 h⟩
instance(a:aB)(b:Int):CW (NO a b) (fun(r:Int)=>Ok A1 137 [(bv .o a),.i b] (.i r)):=⟨fun r h=>by
 refine bJ cr m137 rfl ?_;unfold NO at h;simp only[ZC,A137,V85,dg];obtain⟨d,c,h⟩:=ar h;refine ZF trivial ?_;refine ZSG trivial (aez _ _ c 186 [.bp .o (.i b) 0] ⟨fun ρ k=>by simp only[VS1,VS2,VS3,VS4,VS5,VS6,VT1,VT2,bj,bl,decide_true,decide_false,A9,A8,cG,cF,cE,ne_eq,not_false_eq_true,B0,B1,true_and,false_and,A5,A6,↓reduceIte,reduceCtorEq,A2,A7,A3,B2],by simp[aK,AV.ments]⟩ (fun _ _ h=>w_ee _ _ h)) ?_;cases h;exact ZL trivial @V85.eq_1⟩
def XH(a:ae)(v:Int×List Int):St:=⟨[(1,.pt 1 0 0),(3,.sl 3 0 v.2.length),(8,.lst .o 5 (a.N.map (ai .o))),(9,.i (a.N.length:Int)),(10,.i v.1)],[(1,.var (aI .o a)),(3,.arr 1 (v.2.map AV.i))]⟩
instance(c:ae):CL (Iw c) Fd [1,3,8,9,10] [1,3] (XH c) (qX 0 [3] [3] (qt)):=⟨fun a o h=>by
 unfold Iw at h;simp only[ZC,XH,Fd];exact ZT ZJB (ZA @XH.eq_1 (ZA @qt.eq_1 @Fd.eq_1)) h⟩
instance(a:ae):CW (Jf a) (fun(r:List Int)=>Ok A1 72 [(aI .o a)] (.lst .u 1 (r.map AV.i))):=⟨fun r h=>ZO m72 (Jf.eq_1 _) ZJ (ZA @XH.eq_1 (ZA @qt.eq_1 (ZA @YB.eq_1 (ZA @V91.eq_1 @A72.eq_1)))) h⟩
theorem w_ef(a:af)(p1Z0:af){r:Bool}(h:QP a p1Z0=some r):Ok A1 168 [(ai .o a),.bp .o (ai .o p1Z0) 0] (.b r):=ZO m168 (QP.eq_1 _ _) trivial (ZA @qB.eq_1 @A168.eq_1) h
instance(a:af)(p1Z0:af):CW (QP a p1Z0) (fun(r:Bool)=>Ok A1 168 [(ai .o a),.bp .o (ai .o p1Z0) 0] (.b r)):=⟨fun r h=>w_ef a p1Z0 h⟩
instance(c:ae)(a:af):CW (Kv c a) (fun(r:Bool)=>Ok A1 107 [(aI .o c),(ai .o a)] (.b r)):=⟨fun r h=>by
 refine bJ cr m107 rfl ?_;unfold Kv at h;simp only[ZC,A107,V85,dg];obtain⟨l,g,h⟩:=ar h;refine ZF trivial ?_;refine ZUG trivial (CW.w _ g) ?_;obtain⟨d,h⟩|⟨d,h⟩:=aM h
 ·obtain⟨m,j,h⟩:=ar h;refine ZF d ?_;refine ZSG d (Yb _ _ j 168 [.bp .o (.agg [.i a.Id,.i a.F.N,.lst .o 1 (a.F.F.map AV.i),.i a.N.N,.i a.N.F]) 0] ⟨fun ρ k=>by simp only[VS1,VS2,VS3,VS4,VS5,VS6,VT1,VT2,bj,bl,decide_true,decide_false,A9,A8,cG,cF,cE,ne_eq,not_false_eq_true,B0,B1,true_and,false_and,A5,A6,↓reduceIte,reduceCtorEq,A2,A7,A3,B2],by simp[aK,AV.ments]⟩ (fun _ _ h=>w_ef _ _ h)) ?_;cases h;exact ZL d @V85.eq_1
 ·cases h;exact ZL d @V85.eq_1⟩
def XX(c:aB)(b:af)(a:aB)(v:Int):St:=⟨[(2,.pt 2 0 0),(3,.pt 3 0 0),(4,.pt 4 0 0),(5,.pt 5 0 0),(6,.i v)],[(2,.var (bv .o c)),(3,.var (ai .o b)),(4,.var (.agg [.lst .u 1 [],.lst .u 4 [],.lst .u 5 []])),(5,.var (.agg [.sl 8 0 a.F.N.length,.sl 1008 0 a.F.F.length,.sl 2008 0 a.N.length])),(8,.arr 1 (a.F.N.map AV.z)),(1008,.arr 4 (a.F.F.map (au .u))),(2008,.arr 5 (a.N.map (ai .u)))]⟩
def EQ(b:af)(a:aB)(v:Int):St:=⟨[(3,.pt 3 0 0),(4,.pt 4 0 0),(5,.pt 5 0 0),(6,.i v)],[(3,.var (ai .o b)),(4,.var (.agg [.lst .u 1 [],.lst .u 4 [],.lst .u 5 []])),(5,.var (.agg [.sl 8 0 a.F.N.length,.sl 1008 0 a.F.F.length,.sl 2008 0 a.N.length])),(8,.arr 1 (a.F.N.map AV.z)),(1008,.arr 4 (a.F.F.map (au .u))),(2008,.arr 5 (a.N.map (ai .u)))]⟩
instance(c:aB)(a:af):CX (Hy c a) wE [2,3,4,5,6] [2,3,4,5,8,1008,2008] (aB) (fun d=>(XX c a d)) (fun d=>(qX 0 [3,4,5,6] [3,4,5,8,1008,2008] (EQ a d))):=⟨fun d i o h=>by
 unfold Hy at h;simp only[ZC,XX,wE];exact ZT trivial (ZA @XX.eq_1 (ZA @EQ.eq_1 @wE.eq_1)) h⟩
instance(d:aB)(a:af):CW (Kg d a) (fun(r:aB)=>Ok A1 174 [(bv .o d),(ai .o a)] (.agg [.lst .u 1 (r.F.N.map AV.z),.lst .u 4 (r.F.F.map (au .u)),.lst .u 5 (r.N.map (ai .u))])):=⟨fun r h=>by
 refine bJ cr m174 rfl ?_;unfold Kg at h;simp only[ZC,A174,fy,dg];obtain⟨g,q,h⟩:=ar h;refine ZF trivial ?_;refine ZUG trivial (CW.w _ q) ?_;obtain⟨x,s,h⟩:=ar h;try refine ZF trivial ?_
 refine ba (bP (bf (CX.w g) s ?_)) ?_
 ·exact ZK (ZA @XX.eq_1 @EQ.eq_1)
 ·simp only[ZC,EQ,Rk];obtain⟨k,t,h⟩:=ar h;refine ZF trivial ?_;refine ZUG trivial (CW.w _ t) ?_;obtain⟨b,c,h⟩:=bg h;have l:Row.arr 5 [(.agg [.i a.Id,.i k.N,.lst .u 1 (k.F.map AV.i),.i a.N.N,.i a.N.F]:AV)]=Row.arr 5 (b.map (ai .u)):=by rw[<-c];rfl
  have j:b.length=1:=by rw[<-c];rfl
  have m:sub (b.map (ai .u)) 0 1=b.map (ai .u):=zQ _ (by simp[<-c]);obtain⟨v,p,h⟩:=ar h;have w:v.length=g.N.length+b.length:=yH p;have f:=ZA l (ZA j m);refine ZF f ?_;refine gm (by simp only[VS1,VS2,VS3,VS4,VS5,VS6,VT1,VT2,bj,bl,decide_true,decide_false,A9,A8,cG,cF,cE,ne_eq,not_false_eq_true,B0,B1,true_and,false_and,A5,A6,↓reduceIte,reduceCtorEq,A2,A7,A3,B2,l,j,m];exact(Wk afh ((ai .u)) (xs:=g.N) (ys:=b) (by simp[<-c]) (by simp[<-c]) p)) (by simp[VS1,VS2,VS3,VS4,VS5,VS6,VT1,VT2]) (by first|exact lS [0] [3700000] rfl (by decide+kernel) (by simp[VS1,VS2,VS3,VS4,VS5,VS6,VT1,VT2])|simp[VS1,VS2,VS3,VS4,VS5,VS6,VT1,VT2]) ?_;refine ZG ?_;cases h;exact ZL f (ZA @fy.eq_1 (ZA c.symm (ZA w j)))⟩
theorem w_eg(a:Int)(p1Z0:ah){r:Bool}(h:OI a p1Z0=some r):Ok A1 239 [.i a,.bp .o (aG .o p1Z0) 0] (.b r):=ZO m239 (OI.eq_1 _ _) trivial (ZA @qB.eq_1 @A239.eq_1) h
instance(a:Int)(p1Z0:ah):CW (OI a p1Z0) (fun(r:Bool)=>Ok A1 239 [.i a,.bp .o (aG .o p1Z0) 0] (.b r)):=⟨fun r h=>w_eg a p1Z0 h⟩
theorem w_ew(a:List Int)(c:Int->Option Bool){r:Bool}(h:Pu a c=some r)(F_fZ0:Nat)(C_fZ0:List AV)(hC_fZ0:tP C_fZ0)(hf_fZ0:∀(x0:Int)(r:Bool),c x0=some r->Ok A1 F_fZ0 ((.i x0)::C_fZ0) (.b r)):Ok A1 238 [.lst .o 1 (a.map AV.i),.fn F_fZ0 C_fZ0] (.b r):=by
 refine bJ cr m238 rfl ?_;unfold Pu at h;simp only[ZC,A238,V85,dg];obtain⟨g,d,h⟩:=ar h;refine ZF trivial ?_;refine ZSG hC_fZ0.1 (w_dk _ _ d F_fZ0 C_fZ0 hC_fZ0 hf_fZ0) ?_;cases h;exact ZL trivial (ZA @V85.eq_1 (ZA hC_fZ0.2 ((dE hC_fZ0))))
instance(a:ah)(d:List Int):CW (Pv a d) (fun(r:Bool)=>Ok A1 215 [(aG .o a),.lst .o 1 (d.map AV.i)] (.b r)):=⟨fun r h=>by
 refine bJ cr m215 rfl ?_;unfold Pv at h;simp only[ZC,A215,V85,dg];obtain⟨l,g,h⟩:=ar h;refine ZF trivial ?_;refine ZSG trivial (CW.w _ g) ?_;obtain⟨c,h⟩|⟨c,h⟩:=aM h
 ·obtain⟨m,j,h⟩:=ar h;refine ZF c ?_;refine ZSG c (w_ew _ _ j 239 [.bp .o (.agg [.lst .o 1 (a.N.map AV.z),.lst .o 4 (a.F.map (au .o))]) 0] ⟨fun ρ k=>by simp only[VS1,VS2,VS3,VS4,VS5,VS6,VT1,VT2,bj,bl,decide_true,decide_false,A9,A8,cG,cF,cE,ne_eq,not_false_eq_true,B0,B1,true_and,false_and,A5,A6,↓reduceIte,reduceCtorEq,A2,A7,A3,B2],by simp[aK,AV.ments]⟩ (fun _ _ h=>w_eg _ _ h)) ?_;cases h;exact ZL c @V85.eq_1
 ·cases h;exact ZL c @V85.eq_1⟩
instance(b:List Int):CW (Kr b) (fun(r:List Int)=>Ok A1 241 [.lst .o 1 (b.map AV.i)] (.lst .u 1 (r.map AV.i))):=⟨fun r h=>by
 refine bJ cr m241 rfl ?_;unfold Kr at h;simp only[ZC,A241,V91,dg];obtain⟨a,h⟩|⟨a,h⟩:=aM h
 ·refine ZF a ?_;refine A0 ?_ ?_
  ·replace h:=aif h;cases h;exact ZL a @V91.eq_1
  ·replace h:=aiy h;obtain⟨g,c,h⟩:=ar h;cases h;exact ZL (ZA a (bq c)) @V91.eq_1
 ·obtain⟨j,d,h⟩:=ar h;cases h;exact ZL (ZA a (bq d)) @V91.eq_1⟩
def S_p(b:Int)(c:Int)(d:List Int)(a:ah)(v:Int×Int×List aj×Int×ah):St:=⟨[(0,.i b),(1,.i c),(2,.lst .m 1 (d.map AV.i)),(7,.pt 1000000006 0 0),(25,.lst .o 4 (((a).F).map (au .o))),(26,.i (((a).F).length:Int)),(27,.i v.1)],[(470000128,.arr 2 (v.2.2.1.map (ay .u))),(1000000001,.var (.i v.2.1)),(1000000002,.var (.sl 470000128 0 v.2.2.1.length)),(1000000004,.var (.i v.2.2.2.1)),(1000000005,.var (aG .o v.2.2.2.2)),(1000000006,.var (.fn 240 [.pt 1000000001 0 0,.pt 1000000002 0 0,.pt 1000000004 0 0,.pt 1000000005 0 0,.pt 1000000006 0 0]))]⟩
def UY(v:Int×List aj×Int×ah):St:=⟨[],[(470000128,.arr 2 (v.2.1.map (ay .u))),(1000000001,.var (.i v.1)),(1000000002,.var (.sl 470000128 0 v.2.1.length)),(1000000004,.var (.i v.2.2.1)),(1000000005,.var (aG .o v.2.2.2)),(1000000006,.var (.fn 240 [.pt 1000000001 0 0,.pt 1000000002 0 0,.pt 1000000004 0 0,.pt 1000000005 0 0,.pt 1000000006 0 0]))]⟩
def w_p(g:Int)(j:Int)(a:List Int)(p:Int)(k:List aj)(q:Int)(d:ah)(b1:Int->Int->List Int->Int->List aj->Int->ah->Option (Int×List aj×Int×ah))(l1:∀(g:Int)(j:Int)(a:List Int)(p:Int)(k:List aj)(q:Int)(d:ah){r:Int×List aj×Int×ah},b1 g j a p k q d=some r->OkM A1 240 [.i g,.i j,.sl 1000000000 0 a.length,.pt 1000000001 0 0,.pt 1000000002 0 0,.pt 1000000004 0 0,.pt 1000000005 0 0,.pt 1000000006 0 0] [(1000000000,.arr 1 (a.map AV.i)),(1000000001,.var (.i p)),(1000000002,.var (.sl 1000000003 0 k.length)),(1000000003,.arr 2 (k.map (ay .u))),(1000000004,.var (.i q)),(1000000005,.var (.agg [.lst .o 1 (((d).N).map AV.z),.lst .o 4 (((d).F).map (au .o))])),(1000000006,.var (.fn 240 [.pt 1000000001 0 0,.pt 1000000002 0 0,.pt 1000000004 0 0,.pt 1000000005 0 0,.pt 1000000006 0 0]))] (.tup []) ([(470000128,.arr 2 (r.2.1.map (ay .u))),(1000000001,.var (.i r.1)),(1000000002,.var (.sl 470000128 0 r.2.1.length)),(1000000004,.var (.i r.2.2.1)),(1000000005,.var (.agg [.lst .o 1 (((r.2.2.2).N).map AV.z),.lst .o 4 (((r.2.2.2).F).map (au .o))])),(1000000006,.var (.fn 240 [.pt 1000000001 0 0,.pt 1000000002 0 0,.pt 1000000004 0 0,.pt 1000000005 0 0,.pt 1000000006 0 0]))]))(c:Int×Int×List aj×Int×ah)(o:(Int×Int×List aj×Int×ah)⊕(Int×List aj×Int×ah))(h:M_p g j a d b1 c=some o):AWP (OkS A1) tv (qL [0,1,2,7,25,26,27] [470000128,1000000001,1000000002,1000000004,1000000005,1000000006] (S_p g j a d) (qX 0 [] [470000128,1000000001,1000000002,1000000004,1000000005,1000000006] (UY)) o) (S_p g j a d c):=by
 have e:=ZA @S_p.eq_1 @UY.eq_1;unfold M_p at h;simp only[ZC,S_p,tv];obtain⟨t,h⟩|⟨t,h⟩:=aM h
 ·obtain⟨b2,m1,h⟩:=ar h;obtain⟨p1,q1,h⟩:=ar h;have f:=ZA t (ec m1);refine ZF f ?_;refine ZSG f (CW.w _ q1) ?_;obtain⟨s1,t1,h⟩:=ar h;try refine ZF f ?_
  refine ba (sh:=(fun v=>⟨[(0,.i g),(1,.i j),(2,.lst .m 1 (a.map AV.i)),(7,.pt 1000000006 0 0),(11,.i c.1),(13,.i p1),(25,.lst .o 4 (((d).F).map (au .o))),(26,.i (((d).F).length:Int)),(27,.i c.1),(43,.b v)],[(470000128,.arr 2 (c.2.2.1.map (ay .u))),(1000000001,.var (.i c.2.1)),(1000000002,.var (.sl 470000128 0 c.2.2.1.length)),(1000000004,.var (.i c.2.2.2.1)),(1000000005,.var (aG .o c.2.2.2.2)),(1000000006,.var (.fn 240 [.pt 1000000001 0 0,.pt 1000000002 0 0,.pt 1000000004 0 0,.pt 1000000005 0 0,.pt 1000000006 0 0]))]⟩)) (s:=s1) ?_ ?_
  ·replace h:=t1;obtain⟨w,h⟩|⟨w,h⟩:=aM h
   ·obtain⟨c2,u1,h⟩:=ar h;cases h;exact ZL (ZA f (ZA w (bq u1))) trivial
   ·cases h;exact ZL (ZA f w) trivial
  ·simp only[ZC,Bb];obtain⟨x,h⟩|⟨x,h⟩:=aM h
   ·obtain⟨d2,v1,h⟩:=ar h;have c1:(0:Int)<=(a.length:Int):=Int.natCast_nonneg _;obtain⟨y,l,h⟩:=bg h;have w1:Row.arr 1 [(.i c.1:AV)]=Row.arr 1 (y.map AV.i):=by rw[<-l];rfl
    have d1:y.length=1:=by rw[<-l];rfl
    obtain⟨g2,y1,h⟩:=ar h;have g1:=bq y1;obtain⟨i1,a1,h⟩:=bg h;have z1:a.map AV.i++y.map AV.i=i1.map AV.i:=by rw[<-a1,A4]
    have j1:a.length+1=i1.length:=by simp[<-l,<-a1]<;>omega
    rw[j1] at g1;have k1:(0:Nat)<1:=by decide
    obtain⟨i2,a2,h⟩:=ar h;have f:=ZA f (ZA x (ZA (bq v1) (ZA c1 (ZA w1 (ZA d1 (ZA g1 (ZA z1 (ZA j1 k1))))))));refine ZF f ?_;refine ZWG f (l1 _ _ _ _ _ _ _ a2) [470000128,1000000001,1000000002,1000000004,1000000005,1000000006] [476000128] ?_;cases h;exact ZL f (ZA e (ZA l.symm (ZA a1.symm (ZA c1 (ZA d1 k1)))))
   ·cases h;exact ZL (ZA f x) e
 ·cases h;exact ZL t e
def aig(m:Int->Int->List Int->Int->List aj->Int->ah->Option (Int×List aj×Int×ah))(t:∀(g:Int)(j:Int)(b:List Int)(k:Int)(a:List aj)(d:Int)(c:ah){r:Int×List aj×Int×ah},m g j b k a d c=some r->OkM A1 240 [.i g,.i j,.sl 1000000000 0 b.length,.pt 1000000001 0 0,.pt 1000000002 0 0,.pt 1000000004 0 0,.pt 1000000005 0 0,.pt 1000000006 0 0] [(1000000000,.arr 1 (b.map AV.i)),(1000000001,.var (.i k)),(1000000002,.var (.sl 1000000003 0 a.length)),(1000000003,.arr 2 (a.map (ay .u))),(1000000004,.var (.i d)),(1000000005,.var (.agg [.lst .o 1 (((c).N).map AV.z),.lst .o 4 (((c).F).map (au .o))])),(1000000006,.var (.fn 240 [.pt 1000000001 0 0,.pt 1000000002 0 0,.pt 1000000004 0 0,.pt 1000000005 0 0,.pt 1000000006 0 0]))] (.tup []) ([(470000128,.arr 2 (r.2.1.map (ay .u))),(1000000001,.var (.i r.1)),(1000000002,.var (.sl 470000128 0 r.2.1.length)),(1000000004,.var (.i r.2.2.1)),(1000000005,.var (.agg [.lst .o 1 (((r.2.2.2).N).map AV.z),.lst .o 4 (((r.2.2.2).F).map (au .o))])),(1000000006,.var (.fn 240 [.pt 1000000001 0 0,.pt 1000000002 0 0,.pt 1000000004 0 0,.pt 1000000005 0 0,.pt 1000000006 0 0]))]))(g:Int)(j:Int)(b:List Int)(k:Int)(a:List aj)(d:Int)(c:ah){r:Int×List aj×Int×ah}(h:Ln m g j b k a d c=some r):OkM A1 240 [.i g,.i j,.sl 1000000000 0 b.length,.pt 1000000001 0 0,.pt 1000000002 0 0,.pt 1000000004 0 0,.pt 1000000005 0 0,.pt 1000000006 0 0] [(1000000000,.arr 1 (b.map AV.i)),(1000000001,.var (.i k)),(1000000002,.var (.sl 1000000003 0 a.length)),(1000000003,.arr 2 (a.map (ay .u))),(1000000004,.var (.i d)),(1000000005,.var (aG .o c)),(1000000006,.var (.fn 240 [.pt 1000000001 0 0,.pt 1000000002 0 0,.pt 1000000004 0 0,.pt 1000000005 0 0,.pt 1000000006 0 0]))] (.tup []) ([(470000128,.arr 2 (r.2.1.map (ay .u))),(1000000001,.var (.i r.1)),(1000000002,.var (.sl 470000128 0 r.2.1.length)),(1000000004,.var (.i r.2.2.1)),(1000000005,.var (.agg [.lst .o 1 (((r.2.2.2).N).map AV.z),.lst .o 4 (((r.2.2.2).F).map (au .o))])),(1000000006,.var (.fn 240 [.pt 1000000001 0 0,.pt 1000000002 0 0,.pt 1000000004 0 0,.pt 1000000005 0 0,.pt 1000000006 0 0]))]):=by
 refine bw (lr:=[470000128,1000000001,1000000002,1000000004,1000000005,1000000006]) cr act rfl rfl ?_;unfold Ln at h;simp only[ZC,SG,dB];obtain⟨l,h⟩|⟨l,h⟩:=aM h
 ·obtain⟨c1,d1,h⟩:=ar h;refine ZF l ?_;refine ZUG l (CW.w _ d1) ?_;obtain⟨q,p,h⟩:=bg h;have g1:Row.arr 2 [(.agg [.i d,.lst .u 1 (c1.map AV.i)]:AV)]=Row.arr 2 (q.map (ay .u)):=by rw[<-p];rfl
  have v:q.length=1:=by rw[<-p];rfl
  obtain⟨k1,i1,h⟩:=ar h;have w:=bq i1;obtain⟨x,s,h⟩:=bg h;have j1:a.map (ay .u)++q.map (ay .u)=x.map (ay .u):=by rw[<-s,A4]
  have y:a.length+1=x.length:=by simp[<-p,<-s]<;>omega
  rw[y] at w;cases h;exact ZL (ZA l (ZA g1 (ZA v (ZA w (ZA j1 y))))) (ZA @dB.eq_1 (ZA p.symm (ZA s.symm v)))
 ·obtain⟨l1,a1,h⟩:=ar h;try refine ZF l ?_
  first|refine gt (bP (bf (w_p g j b k a d c m t) a1 ?_)) (fun τ b1=>?_)|refine jC (bf (w_p g j b k a d c m t) a1 ?_) (fun τ b1=>?_)
  ·exact ZK (ZA @S_p.eq_1 @UY.eq_1)
  ·cases h;refine ox b1 (by decide) ?_ rfl;exact ZK (ZA @dB.eq_1 @UY.eq_1)
theorem w_de:∀(n:Nat)(d:Int)(g:Int)(a:List Int)(j:Int)(b:List aj)(k:Int)(c:ah){r:Int×List aj×Int×ah}(_:Hh n d g a j b k c=some r),OkM A1 240 [.i d,.i g,.sl 1000000000 0 a.length,.pt 1000000001 0 0,.pt 1000000002 0 0,.pt 1000000004 0 0,.pt 1000000005 0 0,.pt 1000000006 0 0] [(1000000000,.arr 1 (a.map AV.i)),(1000000001,.var (.i j)),(1000000002,.var (.sl 1000000003 0 b.length)),(1000000003,.arr 2 (b.map (ay .u))),(1000000004,.var (.i k)),(1000000005,.var (.agg [.lst .o 1 (((c).N).map AV.z),.lst .o 4 (((c).F).map (au .o))])),(1000000006,.var (.fn 240 [.pt 1000000001 0 0,.pt 1000000002 0 0,.pt 1000000004 0 0,.pt 1000000005 0 0,.pt 1000000006 0 0]))] ((fun(r:Int×List aj×Int×ah)=>.tup []) r) ((fun(r:Int×List aj×Int×ah)=>[(470000128,.arr 2 (r.2.1.map (ay .u))),(1000000001,.var (.i r.1)),(1000000002,.var (.sl 470000128 0 r.2.1.length)),(1000000004,.var (.i r.2.2.1)),(1000000005,.var (.agg [.lst .o 1 (((r.2.2.2).N).map AV.z),.lst .o 4 (((r.2.2.2).F).map (au .o))])),(1000000006,.var (.fn 240 [.pt 1000000001 0 0,.pt 1000000002 0 0,.pt 1000000004 0 0,.pt 1000000005 0 0,.pt 1000000006 0 0]))]) r)
 |0,d,g,a,j,b,k,c,_,h=>by cases h
 |n+1,d,g,a,j,b,k,c,_,h=>aig (Hh n) (w_de n) d g a j b k c h
def Ts(b:Int)(c:Int)(d:List Int)(a:ah)(v:Int×Int×List aj×Int×ah):St:=⟨[(0,.i b),(1,.i c),(2,.lst .u 1 (d.map AV.i)),(7,.pt 1000000005 0 0),(25,.lst .o 4 (((a).F).map (au .o))),(26,.i (((a).F).length:Int)),(27,.i v.1)],[(470000064,.arr 2 (v.2.2.1.map (ay .u))),(1000000000,.var (.i v.2.1)),(1000000001,.var (.sl 470000064 0 v.2.2.1.length)),(1000000003,.var (.i v.2.2.2.1)),(1000000004,.var (aG .o v.2.2.2.2)),(1000000005,.var (.fn 240 [.pt 1000000000 0 0,.pt 1000000001 0 0,.pt 1000000003 0 0,.pt 1000000004 0 0,.pt 1000000005 0 0]))]⟩
def El(v:Int×List aj×Int×ah):St:=⟨[],[(470000064,.arr 2 (v.2.1.map (ay .u))),(1000000000,.var (.i v.1)),(1000000001,.var (.sl 470000064 0 v.2.1.length)),(1000000003,.var (.i v.2.2.1)),(1000000004,.var (aG .o v.2.2.2)),(1000000005,.var (.fn 240 [.pt 1000000000 0 0,.pt 1000000001 0 0,.pt 1000000003 0 0,.pt 1000000004 0 0,.pt 1000000005 0 0]))]⟩
instance(g:Int)(j:Int)(c:List Int)(d:ah):CL (aer g j c d) rB [0,1,2,7,25,26,27] [470000064,1000000000,1000000001,1000000003,1000000004,1000000005] (Ts g j c d) (qX 0 [] [470000064,1000000000,1000000001,1000000003,1000000004,1000000005] (El)):=⟨fun a o h=>by
 have e:=ZA @Ts.eq_1 @El.eq_1;unfold aer at h;simp only[ZC,Ts,rB];obtain⟨l,h⟩|⟨l,h⟩:=aM h
 ·obtain⟨u1,d1,h⟩:=ar h;obtain⟨g1,i1,h⟩:=ar h;have f:=ZA l (ec d1);refine ZF f ?_;refine ZSG f (CW.w _ i1) ?_;obtain⟨j1,k1,h⟩:=ar h;try refine ZF f ?_
  refine ba (sh:=(fun v=>⟨[(0,.i g),(1,.i j),(2,.lst .u 1 (c.map AV.i)),(7,.pt 1000000005 0 0),(11,.i a.1),(13,.i g1),(25,.lst .o 4 (((d).F).map (au .o))),(26,.i (((d).F).length:Int)),(27,.i a.1),(43,.b v)],[(470000064,.arr 2 (a.2.2.1.map (ay .u))),(1000000000,.var (.i a.2.1)),(1000000001,.var (.sl 470000064 0 a.2.2.1.length)),(1000000003,.var (.i a.2.2.2.1)),(1000000004,.var (aG .o a.2.2.2.2)),(1000000005,.var (.fn 240 [.pt 1000000000 0 0,.pt 1000000001 0 0,.pt 1000000003 0 0,.pt 1000000004 0 0,.pt 1000000005 0 0]))]⟩)) (s:=j1) ?_ ?_
  ·replace h:=k1;obtain⟨m,h⟩|⟨m,h⟩:=aM h
   ·obtain⟨v1,l1,h⟩:=ar h;cases h;exact ZL (ZA f (ZA m (bq l1))) trivial
   ·cases h;exact ZL (ZA f m) trivial
  ·simp only[ZC,zi];obtain⟨p,h⟩|⟨p,h⟩:=aM h
   ·obtain⟨w1,m1,h⟩:=ar h;have w:(0:Int)<=(c.length:Int):=Int.natCast_nonneg _;obtain⟨q,k,h⟩:=bg h;have p1:Row.arr 1 [(.i a.1:AV)]=Row.arr 1 (q.map AV.i):=by rw[<-k];rfl
    have x:q.length=1:=by rw[<-k];rfl
    obtain⟨y1,q1,h⟩:=ar h;have y:=bq q1;obtain⟨a1,t,h⟩:=bg h;have s1:c.map AV.i++q.map AV.i=a1.map AV.i:=by rw[<-t,A4]
    have b1:c.length+1=a1.length:=by simp[<-k,<-t]<;>omega
    rw[b1] at y;have c1:(0:Nat)<1:=by decide
    obtain⟨z1,t1,h⟩:=ar h;have f:=ZA f (ZA p (ZA (bq m1) (ZA w (ZA p1 (ZA x (ZA y (ZA s1 (ZA b1 c1))))))));refine ZF f ?_;refine ZWG f (w_de N0 _ _ _ _ _ _ _ t1) [470000128,1000000001,1000000002,1000000004,1000000005,1000000006] [476000128] ?_;cases h;exact ZL f (ZA e (ZA k.symm (ZA t.symm (ZA w (ZA x c1)))))
   ·cases h;exact ZL (ZA f p) e
 ·cases h;exact ZL l e⟩
instance(d:Int)(g:Int)(j:List Int)(q:Int)(a:List aj)(l:Int)(b:ah):CW (Ua d g j q a l b) (fun(r:Int×List aj×Int×ah)=>OkM A1 240 [.i d,.i g,.lst .u 1 (j.map AV.i),.pt 1000000000 0 0,.pt 1000000001 0 0,.pt 1000000003 0 0,.pt 1000000004 0 0,.pt 1000000005 0 0] [(1000000000,.var (.i q)),(1000000001,.var (.sl 1000000002 0 a.length)),(1000000002,.arr 2 (a.map (ay .u))),(1000000003,.var (.i l)),(1000000004,.var (aG .o b)),(1000000005,.var (.fn 240 [.pt 1000000000 0 0,.pt 1000000001 0 0,.pt 1000000003 0 0,.pt 1000000004 0 0,.pt 1000000005 0 0]))] (.tup []) ([(470000064,.arr 2 (r.2.1.map (ay .u))),(1000000000,.var (.i r.1)),(1000000001,.var (.sl 470000064 0 r.2.1.length)),(1000000003,.var (.i r.2.2.1)),(1000000004,.var (.agg [.lst .o 1 (((r.2.2.2).N).map AV.z),.lst .o 4 (((r.2.2.2).F).map (au .o))])),(1000000005,.var (.fn 240 [.pt 1000000000 0 0,.pt 1000000001 0 0,.pt 1000000003 0 0,.pt 1000000004 0 0,.pt 1000000005 0 0]))])):=⟨fun r h=>by
 refine bw (lr:=[470000064,1000000000,1000000001,1000000003,1000000004,1000000005]) cr aay rfl rfl ?_;unfold Ua at h;simp only[ZC,QU,dB];obtain⟨c,h⟩|⟨c,h⟩:=aM h
 ·obtain⟨a1,b1,h⟩:=ar h;refine ZF c ?_;refine ZUG c (CW.w _ b1) ?_;obtain⟨m,k,h⟩:=bg h;have c1:Row.arr 2 [(.agg [.i l,.lst .u 1 (a1.map AV.i)]:AV)]=Row.arr 2 (m.map (ay .u)):=by rw[<-k];rfl
  have s:m.length=1:=by rw[<-k];rfl
  obtain⟨i1,d1,h⟩:=ar h;have t:=bq d1;obtain⟨v,p,h⟩:=bg h;have g1:a.map (ay .u)++m.map (ay .u)=v.map (ay .u):=by rw[<-p,A4]
  have w:a.length+1=v.length:=by simp[<-k,<-p]<;>omega
  rw[w] at t;cases h;exact ZL (ZA c (ZA c1 (ZA s (ZA t (ZA g1 w))))) (ZA @dB.eq_1 (ZA k.symm (ZA p.symm s)))
 ·obtain⟨j1,x,h⟩:=ar h;try refine ZF c ?_
  first|refine gt (bP (bf CL.w x ?_)) (fun τ y=>?_)|refine jC (bf CL.w x ?_) (fun τ y=>?_)
  ·exact ZK (ZA @Ts.eq_1 @El.eq_1)
  ·cases h;refine ox y (by decide) ?_ rfl;exact ZK (ZA @dB.eq_1 @El.eq_1)⟩
def Vl(a:ah)(b:aj)(v:Int×Int):St:=⟨[(2,.pt 2 0 0),(5,.i v.1),(9,.lst .o 1 (b.F.map AV.i)),(10,.i (b.F.length:Int)),(11,.i v.2)],[(2,.var (aG .o a))]⟩
instance(a:ah)(b:aj):CL (afr a b) xy [2,5,9,10,11] [2] (Vl a b) (qX 0 [5] [] (qr)):=⟨fun d o h=>by
 unfold afr at h;simp only[ZC,Vl,xy];exact ZT trivial (ZA @Vl.eq_1 (ZA @qr.eq_1 @xy.eq_1)) h⟩
instance(a:ah)(b:aj):CW (SD a b) (fun(r:Int)=>Ok A1 252 [(aG .o a),(ay .o b)] (.i r)):=⟨fun r h=>ZO m252 (SD.eq_1 _ _) ZJ (ZA @Vl.eq_1 (ZA @qr.eq_1 (ZA @Re.eq_1 (ZA @V85.eq_1 @A252.eq_1)))) h⟩
def Xv(s1Z0:List Int)(s2Z0:List Int)(v:Int):St:=⟨[(0,.lst .o 1 (s1Z0.map AV.i)),(1,.lst .o 1 (s2Z0.map AV.i)),(9,.lst .o 1 (s1Z0.map AV.i)),(10,.i (s1Z0.length:Int)),(11,.i v)],[]⟩
def SM(s1Z0:List Int)(s2Z0:List Int)(v:Unit):St:=⟨[(0,.lst .o 1 (s1Z0.map AV.i)),(1,.lst .o 1 (s2Z0.map AV.i))],[]⟩
instance(s1Z0:List Int)(s2Z0:List Int):CL (HB s1Z0 s2Z0) CK [0,1,9,10,11] [] (Xv s1Z0 s2Z0) (qS (qX 0 [0,1] [] (SM s1Z0 s2Z0)) (qR V85 (fun r=>.i r))):=⟨fun d o h=>by
 unfold HB at h;simp only[ZC,Xv,CK];exact ZT trivial (ZA @V85.eq_1 (ZA @Xv.eq_1 @SM.eq_1)) h⟩
instance(s1Z0:List Int)(s2Z0:List Int):CW (Py s1Z0 s2Z0) (fun(r:Int)=>Ok A1 253 [.lst .o 1 (s1Z0.map AV.i),.lst .o 1 (s2Z0.map AV.i)] (.i r)):=⟨fun r h=>ZO m253 (Py.eq_1 _ _) ZJ (ZA @Xv.eq_1 (ZA @SM.eq_1 (ZA @QV.eq_1 (ZA @V85.eq_1 @A253.eq_1)))) h⟩
instance(c:ah)(d:aj)(g:aj):CW (Pd c d g) (fun(r:Int)=>Ok A1 244 [(aG .o c),(ay .o d),(ay .o g)] (.i r)):=⟨fun r h=>ZO m244 (Pd.eq_1 _ _ _) ZJB (ZA @jw.eq_1 @A244.eq_1) h⟩
theorem w_df(a:aj)(b:aj)(p2Z0:ah){r:Int}(h:yr a b p2Z0=some r):Ok A1 243 [(ay .o a),(ay .o b),.bp .o (aG .o p2Z0) 0] (.i r):=ZO m243 (yr.eq_1 _ _ _) trivial (ZA @V243.eq_1 @A243.eq_1) h
instance(a:aj)(b:aj)(p2Z0:ah):CW (yr a b p2Z0) (fun(r:Int)=>Ok A1 243 [(ay .o a),(ay .o b),.bp .o (aG .o p2Z0) 0] (.i r)):=⟨fun r h=>w_df a b p2Z0 h⟩
instance(b:ah)(g:Int)(j:Int):CW (LP b g j) (fun(r:List aj)=>Ok A1 216 [(aG .o b),.i g,.i j] (.lst .u 2 (r.map (ay .u)))):=⟨fun r h=>by
 refine bJ cr m216 rfl ?_;unfold LP at h;simp only[ZC,A216,jw,dg];obtain⟨a,m,h⟩:=ar h;try refine ZF trivial ?_
 refine ba (sh:=(fun v=>⟨[(3,.pt 3 0 0),(7,.pt 7 0 0)],[(3,.var (aG .o v.1)),(7,.var (.sl 500000448 0 v.2.length)),(500000448,.arr 2 (v.2.map (ay .u)))]⟩)) (s:=a) ?_ ?_
 ·replace h:=m;obtain⟨c,h⟩|⟨c,h⟩:=aM h
  ·obtain⟨w,p,h⟩:=ar h;obtain⟨x,q,h⟩:=ar h;have f:=ZA c (bq p);refine ZF f ?_;refine ZWG f (CW.w _ q) [470000064,1000000000,1000000001,1000000003,1000000004,1000000005] [471900064] ?_;cases h;exact ZL f trivial
  ·cases h;exact ZL c trivial
 ·simp only[ZC,QR];obtain⟨d,k,h⟩:=ar h;have l:d.length=a.2.length:=mb k;refine ZF trivial ?_;refine gm (by simp only[VS1,VS2,VS3,VS4,VS5,VS6,VT1,VT2,bj,bl,decide_true,decide_false,A9,A8,cG,cF,cE,ne_eq,not_false_eq_true,B0,B1,true_and,false_and,A5,A6,↓reduceIte,reduceCtorEq,A2,A7,A3,B2];exact(PI Vb (ay .u) (rd .u) (xs:=a.2) (cmp:=(fun x0 x1=>yr x0 x1 a.1)) (C:=[.bp .o (.agg [.lst .o 1 (a.1.N.map AV.z),.lst .o 4 (a.1.F.map (au .o))]) 0]) (by simp[B8]) (by simp only[VS1,VS2,VS3,VS4,VS5,VS6,VT1,VT2,bj,bl,decide_true,decide_false,A9,A8,cG,cF,cE,ne_eq,not_false_eq_true,B0,B1,true_and,false_and,A5,A6,↓reduceIte,reduceCtorEq,A2,A7,A3,B2,List.map_cons,List.map_nil]) rfl (by simp[Wf,VS1,VS2,VS3,VS4,VS5,VS6,VT1,VT2]) (by simp[VS1,VS2,VS3,VS4,VS5,VS6,VT1,VT2]) ((abr m243)) (fun _ _ _ hq=>by simp only[hY,VS1,VS2,VS3,VS4,VS5,VS6,VT1,VT2,bj,bl,decide_true,decide_false,A9,A8,cG,cF,cE,ne_eq,not_false_eq_true,B0,B1,true_and,false_and,A5,A6,↓reduceIte,reduceCtorEq,A2,A7,A3,B2];exact w_df _ _ _ hq) k)) (by simp[VS1,VS2,VS3,VS4,VS5,VS6,VT1,VT2]) (by first|exact mV [1000000000,1000000001] rfl (by decide+kernel)|simp[VS1,VS2,VS3,VS4,VS5,VS6,VT1,VT2]) ?_;refine ZG ?_;have t:sub (d.map (ay .u)) 0 a.2.length=d.map (ay .u):=zQ _ (by simp[l]);cases h;exact ZL t (ZA @jw.eq_1 l)⟩
instance(c:ah)(g:Int)(j:Int):CW (zN c g j) (fun(r:List aj×Bool)=>Ok A1 175 [(aG .o c),.i g,.i j] (.tup [.lst .u 2 (r.1.map (ay .u)),.b r.2])):=⟨fun r h=>by
 refine bJ cr m175 rfl ?_;unfold zN at h;simp only[ZC,A175,gv,dg];obtain⟨q,t,h⟩:=ar h;try refine ZF trivial ?_
 refine ba (sh:=(fun v=>⟨[(1,.i g),(2,.i j),(3,.pt 3 0 0),(19,.b v)],[(3,.var (aG .o c))]⟩)) (s:=q) ?_ ?_
 ·replace h:=t;obtain⟨k,d,h⟩:=bg h;have w:Row.arr 1 [(.i g:AV),(.i j:AV)]=Row.arr 1 (k.map AV.i):=by rw[<-d];rfl
  have l:k.length=2:=by rw[<-d];rfl
  have x:sub (k.map AV.i) 0 2=k.map AV.i:=zQ _ (by simp[<-d]);obtain⟨b1,y,h⟩:=ar h;have f:=ZA w (ZA l x);refine ZF f ?_;refine ZSG f (CW.w _ y) ?_;obtain⟨m,h⟩|⟨m,h⟩:=aM h
  ·cases h;exact ZL (ZA f m) (ZA d.symm l)
  ·cases h;exact ZL (ZA f m) (ZA d.symm l)
 ·simp only[ZC,Qc];obtain⟨a,h⟩|⟨a,h⟩:=aM h
  ·cases h;exact ZL a @gv.eq_1
  ·obtain⟨c1,a1,h⟩:=ar h;refine ZF a ?_;refine ZUG a (CW.w _ a1) ?_;obtain⟨p,h⟩|⟨p,h⟩:=aM h
   ·cases h;exact ZL (ZA a p) @gv.eq_1
   ·cases h;exact ZL (ZA a p) @gv.eq_1⟩
def S_j(b:aB)(c:Int×List Int)(a:af)(v:Int×List Int):St:=⟨[(3,.sl 3 0 v.2.length),(5,.pt 5 0 0),(14,.lst .o 5 (b.N.map (ai .o))),(15,.i (b.N.length:Int)),(16,.i c.1),(22,.lst .o 1 (a.F.F.map AV.i)),(23,.i (a.F.F.length:Int)),(24,.i v.1)],[(3,.arr 1 (v.2.map AV.i)),(5,.var (ai .o a))]⟩
def Up(a:aB)(b:Int×List Int)(v:List Int):St:=⟨[(3,.sl 3 0 v.length),(14,.lst .o 5 (a.N.map (ai .o))),(15,.i (a.N.length:Int)),(16,.i b.1)],[(3,.arr 1 (v.map AV.i))]⟩
def w_j(a:aB)(b:Int×List Int)(c:af)(d:Int×List Int)(o:(Int×List Int)⊕(List Int))(h:M_j c d=some o):AWP (OkS A1) Du (qL [3,5,14,15,16,22,23,24] [3,5] (S_j a b c) (qX 2 [3,14,15,16] [3] (Up a b)) o) (S_j a b c d):=by
 have e:=ZA @S_j.eq_1 @Up.eq_1;unfold M_j at h;simp only[ZC,S_j,Du];obtain⟨g,h⟩|⟨g,h⟩:=aM h
 ·obtain⟨k,l,h⟩:=ar h;obtain⟨w,m,h⟩:=ar h;obtain⟨p,q,h⟩:=ar h;obtain⟨s,t,h⟩:=ar h;have f:=ZA g (ZA (ec l) (ZA (bq m) q));refine ZF f ?_;refine ZSG f (CW.w _ t) ?_;obtain⟨u,j,h⟩:=bg h;have v:(d.2.map AV.i).set (B3 k) (.i (bits .or .i64 p s))=u.map AV.i:=by rw[<-j,List.map_set]
  cases h;exact ZL (ZA f v) (ZA e j.symm)
 ·cases h;exact ZL g e
def Tb(a:aB)(v:Int×List Int):St:=⟨[(3,.sl 3 0 v.2.length),(14,.lst .o 5 (a.N.map (ai .o))),(15,.i (a.N.length:Int)),(16,.i v.1)],[(3,.arr 1 (v.2.map AV.i))]⟩
instance(a:aB):CL (Dq a) CY [3,14,15,16] [3] (Tb a) (qX 0 [3] [3] (qt)):=⟨fun b o h=>by
 have e:=ZA @Tb.eq_1 @qt.eq_1;unfold Dq at h;simp only[ZC,Tb,CY];obtain⟨c,h⟩|⟨c,h⟩:=aM h
 ·obtain⟨k,l,h⟩:=ar h;try refine ZF c ?_
  refine ba (sh:=(fun v=>⟨[(3,.sl 3 0 v.length),(14,.lst .o 5 (a.N.map (ai .o))),(15,.i (a.N.length:Int)),(16,.i b.1)],[(3,.arr 1 (v.map AV.i))]⟩)) (s:=k) ?_ ?_
  ·replace h:=l;obtain⟨d,m,h⟩:=ar h;obtain⟨p,g,h⟩:=ar h;try refine ZF (ZA c (ec m)) ?_
   first|refine gt (bP (bf (w_j a b d) g ?_)) (fun τ j=>?_)|refine jC (bf (w_j a b d) g ?_) (fun τ j=>?_)
   ·exact ZK (ZA @S_j.eq_1 @Up.eq_1)
   ·cases h;try refine ZF trivial ?_
    refine⟨rfl,Shp.sub j (by decide) (by decide) ?_⟩;exact ZK @Up.eq_1
  ·simp only[ZC,LN];cases h;exact ZL c e
 ·cases h;exact ZL c e⟩
instance(a:aB):CW (Lv a) (fun(r:List Int)=>Ok A1 219 [(bv .o a)] (.lst .u 1 (r.map AV.i))):=⟨fun r h=>ZO m219 (Lv.eq_1 _) ZJB (ZA @Tb.eq_1 (ZA @qt.eq_1 (ZA @OA.eq_1 (ZA @V91.eq_1 @A219.eq_1)))) h⟩
def XM(a:aj)(b:List Int)(v:Int×Int):St:=⟨[(5,.sl 5 0 b.length),(6,.i v.1),(12,.lst .o 1 (a.F.map AV.i)),(13,.i (a.F.length:Int)),(14,.i v.2)],[(5,.arr 1 (b.map AV.i))]⟩
def PD(v:Int):St:=⟨[(6,.i v)],[]⟩
instance(a:aj)(b:List Int):CL (BZ a b) wJ [5,6,12,13,14] [5] (XM a b) (qX 0 [6] [] (PD)):=⟨fun d o h=>by
 unfold BZ at h;simp only[ZC,XM,wJ];exact ZT trivial (ZA @XM.eq_1 (ZA @PD.eq_1 @wJ.eq_1)) h⟩
instance(a:aB)(b:aj):CW (RC a b) (fun(r:Int)=>Ok A1 177 [(bv .o a),(ay .o b)] (.i r)):=⟨fun r h=>ZO m177 (RC.eq_1 _ _) ZJ (ZA @XM.eq_1 (ZA @PD.eq_1 (ZA @KD.eq_1 (ZA @V85.eq_1 @A177.eq_1)))) h⟩
instance(a:Int):CW (UO a) (fun(r:Bool)=>Ok A1 245 [.i a] (.b r)):=⟨fun r h=>ZO m245 (UO.eq_1 _) trivial (ZA @V91.eq_1 @A245.eq_1) h⟩
instance(c:Int)(d:Int):CW (Xg c d) (fun(r:Bool)=>Ok A1 217 [.i c,.i d] (.b r)):=⟨fun r h=>ZO m217 (Xg.eq_1 _ _) trivial (ZA @V85.eq_1 @A217.eq_1) h⟩
instance(d:Int)(g:Int):CL (Qu d g) xM [0,1,5,6] [5] (S_e d g) (qX 0 [5] [5] (tZ)):=⟨fun b o h=>by
 unfold Qu at h;simp only[ZC,S_e,xM];exact ZT ZJB (ZA @S_e.eq_1 (ZA @tZ.eq_1 @xM.eq_1)) h⟩
instance(a:Int)(b:Int):CW (SJ a b) (fun(r:List Int)=>Ok A1 218 [.i a,.i b] (.lst .u 1 (r.map AV.i))):=⟨fun r h=>ZO m218 (SJ.eq_1 _ _) ZJ (ZA @S_e.eq_1 (ZA @tZ.eq_1 (ZA @Ry.eq_1 (ZA @V85.eq_1 @A218.eq_1)))) h⟩
instance(d:Int)(g:Int):CW (MS d g) (fun(r:aX×Bool)=>Ok A1 176 [.i d,.i g] (.tup [.agg [.i r.1.N,.i r.1.F],.b r.2])):=⟨fun r h=>ZO m176 (MS.eq_1 _ _) trivial (ZA @V176.eq_1 @A176.eq_1) h⟩
def UV(b:ae)(g:Int)(a:ae)(c:af)(d:List aj×Bool)(v:Int):St:=⟨[(1,.i g),(2,.pt 2 0 0),(4,.pt 4 0 0),(6,.pt 6 0 0),(7,.pt 7 0 0),(51,.sl 9 0 d.1.length),(52,.i (d.1.length:Int)),(53,.i v)],[(2,.var (aI .o b)),(4,.var (.agg [.lst .u 1 [],.lst .u 4 [],.lst .u 5 [],.lst .u 5 [],.lst .u 1 []])),(6,.var (.agg [.sl 16 0 a.F.F.N.length,.sl 1016 0 a.F.F.F.length,.sl 2016 0 a.F.N.length,.sl 3016 0 a.N.length,.sl 4016 0 a.L.length])),(7,.var (ai .o c)),(9,.arr 2 (d.1.map (ay .u))),(16,.arr 1 (a.F.F.N.map AV.z)),(1016,.arr 4 (a.F.F.F.map (au .u))),(2016,.arr 5 (a.F.N.map (ai .u))),(3016,.arr 5 (a.N.map (ai .u))),(4016,.arr 1 (a.L.map AV.i))]⟩
def NE(a:ae)(v:Unit):St:=⟨[(4,.pt 4 0 0),(6,.pt 6 0 0)],[(4,.var (.agg [.lst .u 1 [],.lst .u 4 [],.lst .u 5 [],.lst .u 5 [],.lst .u 1 []])),(6,.var (.agg [.sl 16 0 a.F.F.N.length,.sl 1016 0 a.F.F.F.length,.sl 2016 0 a.F.N.length,.sl 3016 0 a.N.length,.sl 4016 0 a.L.length])),(16,.arr 1 (a.F.F.N.map AV.z)),(1016,.arr 4 (a.F.F.F.map (au .u))),(2016,.arr 5 (a.F.N.map (ai .u))),(3016,.arr 5 (a.N.map (ai .u))),(4016,.arr 1 (a.L.map AV.i))]⟩
instance(c:ae)(d:Int)(a:ae)(g:af)(j:List aj×Bool):CL (Iy c d a g j) wX [1,2,4,6,7,51,52,53] [2,4,6,7,9,16,1016,2016,3016,4016] (UV c d a g j) (qS (qX 0 [4,6] [4,6,16,1016,2016,3016,4016] (NE a)) (qR jx (fun r=>.tup [.agg [.lst .u 1 (r.1.F.F.N.map AV.z),.lst .u 4 (r.1.F.F.F.map (au .u)),.lst .u 5 (r.1.F.N.map (ai .u)),.lst .u 5 (r.1.N.map (ai .u)),.lst .u 1 (r.1.L.map AV.i)],.b r.2]))):=⟨fun p o h=>by
 unfold Iy at h;simp only[ZC,UV,wX];exact ZT trivial (ZA @UV.eq_1 (ZA @NE.eq_1 (ZA @jx.eq_1 @wX.eq_1))) h⟩
instance(a:ae)(d:Int):CW (JZ a d) (fun(r:ae×Bool)=>Ok A1 118 [(aI .o a),.i d] (.tup [.agg [.lst .u 1 (r.1.F.F.N.map AV.z),.lst .u 4 (r.1.F.F.F.map (au .u)),.lst .u 5 (r.1.F.N.map (ai .u)),.lst .u 5 (r.1.N.map (ai .u)),.lst .u 1 (r.1.L.map AV.i)],.b r.2])):=⟨fun r h=>ZO m118 (JZ.eq_1 _ _) ZJ (ZA @UV.eq_1 (ZA @NE.eq_1 (ZA @Oe.eq_1 (ZA @jx.eq_1 @A118.eq_1)))) h⟩
def WA(a:List Int)(v:Int×List Int×List ByteArray×List aw×List af×List af×List Int):St:=⟨[(2,.pt 2 0 0),(5,.pt 5 0 0),(6,.sl 6 0 v.2.1.length),(19,.sl 19 0 a.length),(20,.i (a.length:Int)),(21,.i v.1)],[(2,.var (.agg [.lst .u 1 [],.lst .u 4 [],.lst .u 5 [],.lst .u 5 [],.lst .u 1 []])),(5,.var (.agg [.sl 500000320 0 v.2.2.1.length,.sl 500000321 0 v.2.2.2.1.length,.sl 500000322 0 v.2.2.2.2.1.length,.sl 500000323 0 v.2.2.2.2.2.1.length,.sl 500000324 0 v.2.2.2.2.2.2.length])),(6,.arr 1 (v.2.1.map AV.i)),(19,.arr 1 (a.map AV.i)),(500000320,.arr 1 (v.2.2.1.map AV.z)),(500000321,.arr 4 (v.2.2.2.1.map (au .u))),(500000322,.arr 5 (v.2.2.2.2.1.map (ai .u))),(500000323,.arr 5 (v.2.2.2.2.2.1.map (ai .u))),(500000324,.arr 1 (v.2.2.2.2.2.2.map AV.i))]⟩
def PM(v:List Int×List ByteArray×List aw×List af×List af×List Int):St:=⟨[(2,.pt 2 0 0),(5,.pt 5 0 0),(6,.sl 6 0 v.1.length)],[(2,.var (.agg [.lst .u 1 [],.lst .u 4 [],.lst .u 5 [],.lst .u 5 [],.lst .u 1 []])),(5,.var (.agg [.sl 500000320 0 v.2.1.length,.sl 500000321 0 v.2.2.1.length,.sl 500000322 0 v.2.2.2.1.length,.sl 500000323 0 v.2.2.2.2.1.length,.sl 500000324 0 v.2.2.2.2.2.length])),(6,.arr 1 (v.1.map AV.i)),(500000320,.arr 1 (v.2.1.map AV.z)),(500000321,.arr 4 (v.2.2.1.map (au .u))),(500000322,.arr 5 (v.2.2.2.1.map (ai .u))),(500000323,.arr 5 (v.2.2.2.2.1.map (ai .u))),(500000324,.arr 1 (v.2.2.2.2.2.map AV.i))]⟩
instance(c:List Int):CL (Bn c) Em [2,5,6,19,20,21] [2,5,6,19,500000320,500000321,500000322,500000323,500000324] (WA c) (qX 0 [2,5,6] [2,5,6,500000320,500000321,500000322,500000323,500000324] (PM)):=⟨fun a o h=>by
 unfold Bn at h;simp only[ZC,WA,Em];exact ZT ZJB (ZA @WA.eq_1 (ZA @PM.eq_1 @Em.eq_1)) h⟩
instance(c:ae):CW (Le c) (fun(r:ae×List Int×Bool)=>Ok A1 52 [(aI .o c)] (.tup [.agg [.lst .u 1 (r.1.F.F.N.map AV.z),.lst .u 4 (r.1.F.F.F.map (au .u)),.lst .u 5 (r.1.F.N.map (ai .u)),.lst .u 5 (r.1.N.map (ai .u)),.lst .u 1 (r.1.L.map AV.i)],.lst .u 1 (r.2.1.map AV.i),.b r.2.2])):=⟨fun r h=>ZO m52 (Le.eq_1 _) ZJ (ZA @WA.eq_1 (ZA @PM.eq_1 (ZA @YL.eq_1 (ZA @V52.eq_1 @A52.eq_1)))) h⟩
def Xj(s1Z0:List Int)(s2Z0:List Int)(v:Int):St:=⟨[(0,.lst .o 1 (s1Z0.map AV.i)),(1,.lst .o 1 (s2Z0.map AV.i)),(12,.i (s1Z0.length:Int)),(13,.i v)],[]⟩
instance(s1Z0:List Int)(s2Z0:List Int):CL (Tx s1Z0 s2Z0) xF [0,1,12,13] [] (Xj s1Z0 s2Z0) (qS (qX 0 [] [] (cz)) (qR V85 (fun r=>.b r))):=⟨fun d o h=>by
 unfold Tx at h;simp only[ZC,Xj,xF];exact ZT trivial (ZA @Xj.eq_1 (ZA @cz.eq_1 (ZA @V85.eq_1 @xF.eq_1))) h⟩
instance(s1Z0:List Int)(s2Z0:List Int):CW (Gy s1Z0 s2Z0) (fun(r:Bool)=>Ok A1 106 [.lst .o 1 (s1Z0.map AV.i),.lst .o 1 (s2Z0.map AV.i)] (.b r)):=⟨fun r h=>ZO m106 (Gy.eq_1 _ _) ZJ (ZA @Xj.eq_1 (ZA @cz.eq_1 (ZA @Ni.eq_1 (ZA @V85.eq_1 @A106.eq_1)))) h⟩
def Yd(a:ae)(v:Int×List Int×List af):St:=⟨[(2,.pt 2 0 0),(5,.pt 5 0 0),(6,.sl 6 0 v.2.1.length),(20,.sl 2016 0 v.2.2.length),(21,.i (a.F.N.length:Int)),(22,.i v.1)],[(2,.var (.agg [.lst .u 1 [],.lst .u 4 [],.lst .u 5 [],.lst .u 5 [],.lst .u 1 []])),(5,.var (.agg [.sl 16 0 a.F.F.N.length,.sl 1016 0 a.F.F.F.length,.sl 2016 0 v.2.2.length,.sl 3016 0 a.N.length,.sl 4016 0 a.L.length])),(6,.arr 1 (v.2.1.map AV.i)),(16,.arr 1 (a.F.F.N.map AV.z)),(1016,.arr 4 (a.F.F.F.map (au .u))),(2016,.arr 5 (v.2.2.map (ai .u))),(3016,.arr 5 (a.N.map (ai .u))),(4016,.arr 1 (a.L.map AV.i))]⟩
def Sx(a:ae)(v:List Int×List af):St:=⟨[(2,.pt 2 0 0),(5,.pt 5 0 0),(6,.sl 6 0 v.1.length)],[(2,.var (.agg [.lst .u 1 [],.lst .u 4 [],.lst .u 5 [],.lst .u 5 [],.lst .u 1 []])),(5,.var (.agg [.sl 16 0 a.F.F.N.length,.sl 1016 0 a.F.F.F.length,.sl 2016 0 v.2.length,.sl 3016 0 a.N.length,.sl 4016 0 a.L.length])),(6,.arr 1 (v.1.map AV.i)),(16,.arr 1 (a.F.F.N.map AV.z)),(1016,.arr 4 (a.F.F.F.map (au .u))),(2016,.arr 5 (v.2.map (ai .u))),(3016,.arr 5 (a.N.map (ai .u))),(4016,.arr 1 (a.L.map AV.i))]⟩
instance(a:ae):CL (Cq a) QI [2,5,6,20,21,22] [2,5,6,16,1016,2016,3016,4016] (Yd a) (qX 0 [2,5,6] [2,5,6,16,1016,2016,3016,4016] (Sx a)):=⟨fun c o h=>by
 have e:=ZA @Yd.eq_1 @Sx.eq_1;unfold Cq at h;simp only[ZC,Yd,QI];obtain⟨k,h⟩|⟨k,h⟩:=aM h
 ·obtain⟨d2,i1,h⟩:=ar h;obtain⟨d,j1,h⟩:=ar h;obtain⟨g2,k1,h⟩:=ar h;have f:=ZA k (ZA (bq i1) j1);refine ZF f ?_;refine ZSG f (CW.w _ k1) ?_;obtain⟨i2,l1,h⟩:=ar h;obtain⟨g,m1,h⟩:=ar h;obtain⟨p1,q1,h⟩:=ar h;have f:=ZA f (ZA (bq l1) m1);try refine ZF f ?_
  refine ba (sh:=(fun v=>⟨[(2,.pt 2 0 0),(5,.pt 5 0 0),(6,.sl 6 0 c.2.1.length),(7,.i c.1),(8,.pt 8 0 0),(9,.pt 9 0 0),(10,.b v),(20,.sl 2016 0 c.2.2.length),(21,.i (a.F.N.length:Int)),(22,.i c.1)],[(2,.var (.agg [.lst .u 1 [],.lst .u 4 [],.lst .u 5 [],.lst .u 5 [],.lst .u 1 []])),(5,.var (.agg [.sl 16 0 a.F.F.N.length,.sl 1016 0 a.F.F.F.length,.sl 2016 0 c.2.2.length,.sl 3016 0 a.N.length,.sl 4016 0 a.L.length])),(6,.arr 1 (c.2.1.map AV.i)),(8,.var (ai .m d)),(9,.var (ai .m g)),(16,.arr 1 (a.F.F.N.map AV.z)),(1016,.arr 4 (a.F.F.F.map (au .u))),(2016,.arr 5 (c.2.2.map (ai .u))),(3016,.arr 5 (a.N.map (ai .u))),(4016,.arr 1 (a.L.map AV.i))]⟩)) (s:=p1) ?_ ?_
  ·replace h:=q1;obtain⟨l,h⟩|⟨l,h⟩:=aM h
   ·obtain⟨j2,s1,h⟩:=ar h;have f:=ZA f l;refine ZF f ?_;refine ZSG f (CW.w _ s1) ?_;obtain⟨p,h⟩|⟨p,h⟩:=aM h
    ·cases h;exact ZL (ZA f p) trivial
    ·cases h;exact ZL (ZA f p) trivial
   ·cases h;exact ZL (ZA f l) trivial
  ·simp only[ZC,aak];obtain⟨t1,u1,h⟩:=ar h;try refine ZF f ?_
   refine ba (sh:=(fun v=>⟨[(2,.pt 2 0 0),(5,.pt 5 0 0),(6,.sl 6 0 c.2.1.length),(7,.i c.1),(8,.pt 8 0 0),(9,.pt 9 0 0),(20,.sl 2016 0 c.2.2.length),(21,.i (a.F.N.length:Int)),(22,.i c.1),(64,.b v)],[(2,.var (.agg [.lst .u 1 [],.lst .u 4 [],.lst .u 5 [],.lst .u 5 [],.lst .u 1 []])),(5,.var (.agg [.sl 16 0 a.F.F.N.length,.sl 1016 0 a.F.F.F.length,.sl 2016 0 c.2.2.length,.sl 3016 0 a.N.length,.sl 4016 0 a.L.length])),(6,.arr 1 (c.2.1.map AV.i)),(8,.var (ai .m d)),(9,.var (ai .m g)),(16,.arr 1 (a.F.F.N.map AV.z)),(1016,.arr 4 (a.F.F.F.map (au .u))),(2016,.arr 5 (c.2.2.map (ai .u))),(3016,.arr 5 (a.N.map (ai .u))),(4016,.arr 1 (a.L.map AV.i))]⟩)) (s:=t1) ?_ ?_
   ·replace h:=u1;obtain⟨q,h⟩|⟨q,h⟩:=aM h
    ·obtain⟨k2,v1,h⟩:=ar h;have f:=ZA f q;refine ZF f ?_;refine ZSG f (CW.w _ v1) ?_;cases h;exact ZL f trivial
    ·cases h;exact ZL (ZA f q) trivial
   ·simp only[ZC,YV];obtain⟨t,h⟩|⟨t,h⟩:=aM h
    ·obtain⟨a1,w1,h⟩:=ar h;have f:=ZA f t;refine ZF f ?_;refine ZUG f (CW.w _ w1) ?_;obtain⟨y1,w,h⟩:=bg h;have z1:(c.2.2.map (ai .u)).set (B3 c.1) (.agg [.i d.Id,.i a1.N,.lst .u 1 (a1.F.map AV.i),.i g.N.N,.i g.N.F])=y1.map (ai .u):=by rw[<-w,List.map_set];rfl
     obtain⟨x,j,h⟩:=bg h;have a2:Row.arr 1 [(.i d.Id:AV)]=Row.arr 1 (x.map AV.i):=by rw[<-j];rfl
     have b1:x.length=1:=by rw[<-j];rfl
     obtain⟨l2,b2,h⟩:=ar h;have c1:=bq b2;obtain⟨d1,y,h⟩:=bg h;have c2:c.2.1.map AV.i++x.map AV.i=d1.map AV.i:=by rw[<-y,A4]
     have g1:c.2.1.length+1=d1.length:=by simp[<-w,<-j,<-y]<;>omega
     rw[g1] at c1;cases h;exact ZL (ZA f (ZA z1 (ZA a2 (ZA b1 (ZA c1 (ZA c2 g1)))))) (ZA e (ZA w.symm (ZA j.symm (ZA y.symm b1))))
    ·cases h;exact ZL (ZA f t) e
 ·cases h;exact ZL k e⟩
instance(a:ae):CW (Rr a) (fun(r:ae×List Int×Bool)=>Ok A1 46 [(aI .o a)] (.tup [.agg [.lst .u 1 (r.1.F.F.N.map AV.z),.lst .u 4 (r.1.F.F.F.map (au .u)),.lst .u 5 (r.1.F.N.map (ai .u)),.lst .u 5 (r.1.N.map (ai .u)),.lst .u 1 (r.1.L.map AV.i)],.lst .u 1 (r.2.1.map AV.i),.b r.2.2])):=⟨fun r h=>ZO m46 (Rr.eq_1 _) ZJ (ZA @Yd.eq_1 (ZA @Sx.eq_1 (ZA @aag.eq_1 (ZA @V52.eq_1 @A46.eq_1)))) h⟩
def TS(a:List ax)(v:Int×List Int×List ByteArray×List aw×List af×List af×List Int):St:=⟨[(5,.pt 5 0 0),(7,.pt 7 0 0),(9,.sl 9 0 v.2.1.length),(26,.lst .o 2 (a.map (aF .o))),(27,.i (a.length:Int)),(28,.i v.1)],[(5,.var (.agg [.lst .u 1 [],.lst .u 4 [],.lst .u 5 [],.lst .u 5 [],.lst .u 1 []])),(7,.var (.agg [.sl 500000448 0 v.2.2.1.length,.sl 500000449 0 v.2.2.2.1.length,.sl 500000450 0 v.2.2.2.2.1.length,.sl 500000451 0 v.2.2.2.2.2.1.length,.sl 500000452 0 v.2.2.2.2.2.2.length])),(9,.arr 1 (v.2.1.map AV.i)),(500000448,.arr 1 (v.2.2.1.map AV.z)),(500000449,.arr 4 (v.2.2.2.1.map (au .u))),(500000450,.arr 5 (v.2.2.2.2.1.map (ai .u))),(500000451,.arr 5 (v.2.2.2.2.2.1.map (ai .u))),(500000452,.arr 1 (v.2.2.2.2.2.2.map AV.i))]⟩
def Qz(v:List Int×List ByteArray×List aw×List af×List af×List Int):St:=⟨[(5,.pt 5 0 0),(7,.pt 7 0 0),(9,.sl 9 0 v.1.length)],[(5,.var (.agg [.lst .u 1 [],.lst .u 4 [],.lst .u 5 [],.lst .u 5 [],.lst .u 1 []])),(7,.var (.agg [.sl 500000448 0 v.2.1.length,.sl 500000449 0 v.2.2.1.length,.sl 500000450 0 v.2.2.2.1.length,.sl 500000451 0 v.2.2.2.2.1.length,.sl 500000452 0 v.2.2.2.2.2.length])),(9,.arr 1 (v.1.map AV.i)),(500000448,.arr 1 (v.2.1.map AV.z)),(500000449,.arr 4 (v.2.2.1.map (au .u))),(500000450,.arr 5 (v.2.2.2.1.map (ai .u))),(500000451,.arr 5 (v.2.2.2.2.1.map (ai .u))),(500000452,.arr 1 (v.2.2.2.2.2.map AV.i))]⟩
instance(c:List ax):CL (De c) Fq [5,7,9,26,27,28] [5,7,9,500000448,500000449,500000450,500000451,500000452] (TS c) (qS (qX 0 [5,7,9] [5,7,9,500000448,500000449,500000450,500000451,500000452] (Qz)) (qR mJ (fun r=>.tup [.lst .u 1 (r.1.map AV.i),.agg [.lst .u 1 (r.2.1.F.F.N.map AV.z),.lst .u 4 (r.2.1.F.F.F.map (au .u)),.lst .u 5 (r.2.1.F.N.map (ai .u)),.lst .u 5 (r.2.1.N.map (ai .u)),.lst .u 1 (r.2.1.L.map AV.i)],.b r.2.2]))):=⟨fun a o h=>by
 unfold De at h;simp only[ZC,TS,Fq];exact ZT ZJB (ZA @TS.eq_1 (ZA @Qz.eq_1 (ZA @mJ.eq_1 (ZA @Fq.eq_1 @ZE.eq_1)))) h⟩
instance(c:aB)(d:List ax):CW (Ih c d) (fun(r:List Int×ae×Bool)=>Ok A1 56 [(bv .o c),.lst .o 2 (d.map (aF .o))] (.tup [.lst .u 1 (r.1.map AV.i),.agg [.lst .u 1 (r.2.1.F.F.N.map AV.z),.lst .u 4 (r.2.1.F.F.F.map (au .u)),.lst .u 5 (r.2.1.F.N.map (ai .u)),.lst .u 5 (r.2.1.N.map (ai .u)),.lst .u 1 (r.2.1.L.map AV.i)],.b r.2.2])):=⟨fun r h=>ZO m56 (Ih.eq_1 _ _) ZJ (ZA @TS.eq_1 (ZA @Qz.eq_1 (ZA @Zj.eq_1 (ZA @aaf.eq_1 (ZA @mJ.eq_1 @A56.eq_1))))) h⟩
instance(c:List Int)(d:List Int):CL (JS c d) Ec [0,1,5] [] (Bd c d) (qS (qX 0 [] [] (cz)) (qR V85 (fun r=>.b r))):=⟨fun i o h=>by
 unfold JS at h;simp only[ZC,Bd,Ec];exact ZT trivial (ZA @Bd.eq_1 (ZA @cz.eq_1 (ZA @V85.eq_1 @Ec.eq_1))) h⟩
instance(c:List Int)(d:List Int):CW (uc c d) (fun(r:Bool)=>Ok A1 20 [.lst .o 1 (c.map AV.i),.lst .o 1 (d.map AV.i)] (.b r)):=⟨fun r h=>ZO m20 (uc.eq_1 _ _) ZJ (ZA @Bd.eq_1 (ZA @cz.eq_1 (ZA @Zf.eq_1 (ZA @V85.eq_1 @A20.eq_1)))) h⟩
def VP(a:List ByteArray)(b:List ByteArray)(v:Int):St:=⟨[(0,.lst .o 1 (a.map AV.z)),(1,.lst .o 1 (b.map AV.z)),(5,.i v)],[]⟩
instance(c:List ByteArray)(d:List ByteArray):CL (JR c d) Ez [0,1,5] [] (VP c d) (qS (qX 0 [] [] (cz)) (qR V85 (fun r=>.b r))):=⟨fun i o h=>by
 unfold JR at h;simp only[ZC,VP,Ez];exact ZT trivial (ZA @VP.eq_1 (ZA @cz.eq_1 (ZA @V85.eq_1 @Ez.eq_1))) h⟩
instance(c:List ByteArray)(d:List ByteArray):CW (Qx c d) (fun(r:Bool)=>Ok A1 99 [.lst .o 1 (c.map AV.z),.lst .o 1 (d.map AV.z)] (.b r)):=⟨fun r h=>ZO m99 (Qx.eq_1 _ _) ZJ (ZA @VP.eq_1 (ZA @cz.eq_1 (ZA @aac.eq_1 (ZA @V85.eq_1 @A99.eq_1)))) h⟩
instance(c:aw)(d:aw):CW (IU c d) (fun(r:Bool)=>Ok A1 158 [(au .o c),(au .o d)] (.b r)):=⟨fun r h=>ZO m158 (IU.eq_1 _ _) trivial (ZA @afe.eq_1 (ZA @V85.eq_1 @afe.eq_1)) h⟩
def WK(a:List aw)(b:List aw)(v:Int):St:=⟨[(0,.lst .o 4 (a.map (au .o))),(1,.lst .o 4 (b.map (au .o))),(5,.i v)],[]⟩
instance(a:List aw)(c:List aw):CL (IM a c) ws [0,1,5] [] (WK a c) (qS (qX 0 [] [] (cz)) (qR V85 (fun r=>.b r))):=⟨fun i o h=>by
 unfold IM at h;simp only[ZC,WK,ws];exact ZT trivial (ZA @WK.eq_1 (ZA @cz.eq_1 (ZA @V85.eq_1 @ws.eq_1))) h⟩
instance(c:List aw)(d:List aw):CW (Pr c d) (fun(r:Bool)=>Ok A1 100 [.lst .o 4 (c.map (au .o)),.lst .o 4 (d.map (au .o))] (.b r)):=⟨fun r h=>ZO m100 (Pr.eq_1 _ _) ZJ (ZA @WK.eq_1 (ZA @cz.eq_1 (ZA @QL.eq_1 (ZA @V85.eq_1 @A100.eq_1)))) h⟩
instance(c:ah)(d:ah):CW (Ou c d) (fun(r:Bool)=>Ok A1 40 [(aG .o c),(aG .o d)] (.b r)):=⟨fun r h=>ZO m40 (Ou.eq_1 _ _) trivial (ZA @V85.eq_1 @A40.eq_1) h⟩
instance(c:aj)(d:aj):CW (Qn c d) (fun(r:Bool)=>Ok A1 159 [(ay .o c),(ay .o d)] (.b r)):=⟨fun r h=>ZO m159 (Qn.eq_1 _ _) trivial (ZA @V85.eq_1 @A159.eq_1) h⟩
instance(c:aX)(d:aX):CW (Lo c d) (fun(r:Bool)=>Ok A1 160 [(bN .o c),(bN .o d)] (.b r)):=⟨fun r h=>ZO m160 (Lo.eq_1 _ _) trivial (ZA @V85.eq_1 @A160.eq_1) h⟩
instance(a:af)(c:af):CW (IZ a c) (fun(r:Bool)=>Ok A1 136 [(ai .o a),(ai .o c)] (.b r)):=⟨fun r h=>ZO m136 (IZ.eq_1 _ _) trivial (ZA @age.eq_1 (ZA @V85.eq_1 @age.eq_1)) h⟩
def XE(a:List af)(b:List af)(v:Int):St:=⟨[(0,.lst .o 5 (a.map (ai .o))),(1,.lst .o 5 (b.map (ai .o))),(5,.i v)],[]⟩
instance(a:List af)(c:List af):CL (Kz a c) Fk [0,1,5] [] (XE a c) (qS (qX 0 [] [] (cz)) (qR V85 (fun r=>.b r))):=⟨fun i o h=>by
 unfold Kz at h;simp only[ZC,XE,Fk];exact ZT trivial (ZA @XE.eq_1 (ZA @cz.eq_1 (ZA @V85.eq_1 @Fk.eq_1))) h⟩
instance(c:List af)(d:List af):CW (IK c d) (fun(r:Bool)=>Ok A1 70 [.lst .o 5 (c.map (ai .o)),.lst .o 5 (d.map (ai .o))] (.b r)):=⟨fun r h=>ZO m70 (IK.eq_1 _ _) ZJ (ZA @XE.eq_1 (ZA @cz.eq_1 (ZA @Zc.eq_1 (ZA @V85.eq_1 @A70.eq_1)))) h⟩
instance(c:aB)(d:aB):CW (JQ c d) (fun(r:Bool)=>Ok A1 28 [(bv .o c),(bv .o d)] (.b r)):=⟨fun r h=>ZO m28 (JQ.eq_1 _ _) trivial (ZA @V85.eq_1 @A28.eq_1) h⟩
instance(a:ae)(c:ae):CW (BL a c) (fun(r:Bool)=>Ok A1 17 [(aI .o a),(aI .o c)] (.b r)):=⟨fun r h=>ZO m17 (BL.eq_1 _ _) trivial (ZA @V85.eq_1 @A17.eq_1) h⟩
instance(c:ax)(d:ax):CW (Km c d) (fun(r:Bool)=>Ok A1 123 [(aF .o c),(aF .o d)] (.b r)):=⟨fun r h=>ZO m123 (Km.eq_1 _ _) trivial (ZA @V85.eq_1 @A123.eq_1) h⟩
def Uh(a:List ax)(b:List ax)(v:Int):St:=⟨[(0,.lst .o 2 (a.map (aF .o))),(1,.lst .o 2 (b.map (aF .o))),(5,.i v)],[]⟩
instance(a:List ax)(c:List ax):CL (IR a c) Fs [0,1,5] [] (Uh a c) (qS (qX 0 [] [] (cz)) (qR V85 (fun r=>.b r))):=⟨fun i o h=>by
 unfold IR at h;simp only[ZC,Uh,Fs];exact ZT trivial (ZA @Uh.eq_1 (ZA @cz.eq_1 (ZA @V85.eq_1 @Fs.eq_1))) h⟩
instance(c:List ax)(d:List ax):CW (QG c d) (fun(r:Bool)=>Ok A1 57 [.lst .o 2 (c.map (aF .o)),.lst .o 2 (d.map (aF .o))] (.b r)):=⟨fun r h=>ZO m57 (QG.eq_1 _ _) ZJ (ZA @Uh.eq_1 (ZA @cz.eq_1 (ZA @YH.eq_1 (ZA @V85.eq_1 @A57.eq_1)))) h⟩
def Wy(v:Int×ByteArray):St:=⟨[(0,.i v.1),(3,.z v.2)],[]⟩
def Nk(v:ByteArray):St:=⟨[(3,.z v)],[]⟩
instance:CL (HG) BK [0,3] [] (Wy) (qX 0 [3] [] (Nk)):=⟨fun c o h=>by
 have e:=ZA @Wy.eq_1 @Nk.eq_1;unfold HG at h;simp only[ZC,Wy,BK];obtain⟨d,h⟩|⟨d,h⟩:=aM h
 ·obtain⟨p,i,h⟩:=ar h;obtain⟨a,b,h⟩:=bg h;have j:Row.arr 1 [(.sc (.int .u8 (IntKind.wrap .u8 (IntKind.wrap .i64 (48+(Int.tmod c.1 10))))):AV)]=Row.arr 1 (a.map AV.u8):=by rw[<-b];rfl
  have g:a.length=1:=by rw[<-b];rfl
  have k:sub (a.map AV.u8) 0 1=a.map AV.u8:=zQ _ (by simp[<-b]);obtain⟨q,l,h⟩:=ar h;obtain⟨s,m,h⟩:=ar h;cases h;exact ZL (ZA d (ZA (bq i) (ZA j (ZA g (ZA k (ZA (bq l) (bq m))))))) (ZA e (ZA b.symm g))
 ·cases h;exact ZL d e⟩
instance(b:Int):CW (zB b) (fun(r:ByteArray)=>Ok A1 161 [.i b] (.z r)):=⟨fun r h=>ZO m161 (zB.eq_1 _) ZJ (ZA @Wy.eq_1 (ZA @Nk.eq_1 (ZA @LR.eq_1 (ZA @V91.eq_1 @A161.eq_1)))) h⟩
def Vf(v:Int×Int×List ByteArray):St:=⟨[(0,.sl 1000000000 0 v.2.2.length),(1,.i v.1),(5,.i v.2.1)],[(1000000000,.arr 1 (v.2.2.map AV.z))]⟩
def Qh(v:Int×List ByteArray):St:=⟨[(1,.i v.1)],[(1000000000,.arr 1 (v.2.map AV.z))]⟩
instance:CL (HN) oT [0,1,5] [1000000000] (Vf) (qX 0 [1] [1000000000] (Qh)):=⟨fun b o h=>by
 unfold HN at h;simp only[ZC,Vf,oT];exact ZT ZJB (ZA @Vf.eq_1 (ZA @Qh.eq_1 @oT.eq_1)) h⟩
instance(b:Int)(a:List ByteArray):CW (KQ b a) (fun(r:Int×List ByteArray)=>OkM A1 102 [.sl 1000000000 0 a.length,.i b] [(1000000000,.arr 1 (a.map AV.z))] (.i r.1) ([(1000000000,.arr 1 (r.2.map AV.z))])):=⟨fun r h=>by
 refine bw (lr:=[1000000000]) cr adw rfl rfl ?_;unfold KQ at h;simp only[ZC,MT,V85];exact ZT ZJ (ZA @Vf.eq_1 (ZA @Qh.eq_1 (ZA @V85.eq_1 @yX.eq_1))) h⟩
def TG(v:Int×Int×List aw):St:=⟨[(0,.sl 1000000000 0 v.2.2.length),(1,.i v.1),(5,.i v.2.1)],[(1000000000,.arr 4 (v.2.2.map (au .u)))]⟩
def KJ(v:Int×List aw):St:=⟨[(1,.i v.1)],[(1000000000,.arr 4 (v.2.map (au .u)))]⟩
instance:CL (JO) rQ [0,1,5] [1000000000] (TG) (qX 0 [1] [1000000000] (KJ)):=⟨fun a o h=>by
 have e:=ZA @TG.eq_1 @KJ.eq_1;unfold JO at h;simp only[ZC,TG,rQ];obtain⟨b,h⟩|⟨b,h⟩:=aM h
 ·obtain⟨i1,v,h⟩:=ar h;obtain⟨c,w,h⟩:=ar h;obtain⟨k,l,h⟩:=bg h;have x:(a.2.2.map (au .u)).set (B3 a.2.1) (.agg [.i a.1,.i c.B,.i c.F,.i c.N])=k.map (au .u):=by rw[<-l,List.map_set];rfl
  obtain⟨d,y,h⟩:=ar h;obtain⟨m,p,h⟩:=bg h;have z:(k.map (au .u)).set (B3 a.2.1) (.agg [.i d.A,.i (IntKind.wrap .i64 (a.1+1)),.i d.F,.i d.N])=m.map (au .u):=by rw[<-p,List.map_set];rfl
  obtain⟨g,a1,h⟩:=ar h;obtain⟨q,s,h⟩:=bg h;have b1:(m.map (au .u)).set (B3 a.2.1) (.agg [.i g.A,.i g.B,.i (IntKind.wrap .i64 ((IntKind.wrap .i64 (a.1+1))+1)),.i g.N])=q.map (au .u):=by rw[<-s,List.map_set];rfl
  obtain⟨j,c1,h⟩:=ar h;obtain⟨d1,t,h⟩:=bg h;have g1:(q.map (au .u)).set (B3 a.2.1) (.agg [.i j.A,.i j.B,.i j.F,.i (IntKind.wrap .i64 ((IntKind.wrap .i64 ((IntKind.wrap .i64 (a.1+1))+1))+1))])=d1.map (au .u):=by rw[<-t,List.map_set];rfl
  cases h;exact ZL (ZA b (ZA (bq v) (ZA w (ZA x (ZA y (ZA z (ZA a1 (ZA b1 (ZA c1 g1))))))))) (ZA e (ZA l.symm (ZA p.symm (ZA s.symm t.symm))))
 ·cases h;exact ZL b e⟩
instance(b:Int)(a:List aw):CW (Mp b a) (fun(r:Int×List aw)=>OkM A1 103 [.sl 1000000000 0 a.length,.i b] [(1000000000,.arr 4 (a.map (au .u)))] (.i r.1) ([(1000000000,.arr 4 (r.2.map (au .u)))])):=⟨fun r h=>by
 refine bw (lr:=[1000000000]) cr agd rfl rfl ?_;unfold Mp at h;simp only[ZC,SB,V85];exact ZT ZJ (ZA @TG.eq_1 (ZA @KJ.eq_1 (ZA @V85.eq_1 @AK.eq_1))) h⟩
instance(c:Int)(a:List ByteArray)(b:List aw):CW (Mv c a b) (fun(r:Int×List ByteArray×List aw)=>OkM A1 42 [.agg [.sl 1000000000 0 a.length,.sl 1000000001 0 b.length],.i c] [(1000000000,.arr 1 (a.map AV.z)),(1000000001,.arr 4 (b.map (au .u)))] (.i r.1) ([(1000000000,.arr 1 (r.2.1.map AV.z)),(1000000001,.arr 4 (r.2.2.map (au .u)))])):=⟨fun r h=>by
 refine bw (lr:=[1000000000,1000000001]) cr ahj rfl rfl ?_;unfold Mv at h;simp only[ZC,YT,V85];exact ZT trivial @V85.eq_1 h⟩
def UK(v:Int×Int×List Int):St:=⟨[(0,.sl 1000000000 0 v.2.2.length),(1,.i v.1),(5,.i v.2.1)],[(1000000000,.arr 1 (v.2.2.map AV.i))]⟩
def QM(v:Int×List Int):St:=⟨[(1,.i v.1)],[(1000000000,.arr 1 (v.2.map AV.i))]⟩
instance:CL (Kl) qT [0,1,5] [1000000000] (UK) (qX 0 [1] [1000000000] (QM)):=⟨fun a o h=>by
 unfold Kl at h;simp only[ZC,UK,qT];exact ZT ZJB (ZA @UK.eq_1 (ZA @QM.eq_1 @qT.eq_1)) h⟩
theorem afc(b:Int)(a:List Int){r:Int×List Int}(h:vM b a=some r):OkM A1 22 [.sl 1000000000 0 a.length,.i b] [(1000000000,.arr 1 (a.map AV.i))] (.i r.1) ([(1000000000,.arr 1 (r.2.map AV.i))]):=by
 refine bw (lr:=[1000000000]) cr aix rfl rfl ?_;unfold vM at h;simp only[ZC,ZH,V85];exact ZT ZJ (ZA @UK.eq_1 (ZA @QM.eq_1 (ZA @V85.eq_1 @Ew.eq_1))) h
instance(b:Int)(a:List Int):CW (vM b a) (fun(r:Int×List Int)=>OkM A1 22 [.sl 1000000000 0 a.length,.i b] [(1000000000,.arr 1 (a.map AV.i))] (.i r.1) ([(1000000000,.arr 1 (r.2.map AV.i))])):=⟨fun r h=>afc b a h⟩
def Ui(v:Int×Int×List af):St:=⟨[(0,.sl 1000000000 0 v.2.2.length),(1,.i v.1),(5,.i v.2.1)],[(1000000000,.arr 5 (v.2.2.map (ai .u)))]⟩
def EC(v:Int×List af):St:=⟨[(1,.i v.1)],[(1000000000,.arr 5 (v.2.map (ai .u)))]⟩
instance:CL (HT) vS [0,1,5] [1000000000] (Ui) (qX 0 [1] [1000000000] (EC)):=⟨fun a o h=>by
 have e:=ZA @Ui.eq_1 @EC.eq_1;unfold HT at h;simp only[ZC,Ui,vS];obtain⟨d,h⟩|⟨d,h⟩:=aM h
 ·obtain⟨w1,l1,h⟩:=ar h;obtain⟨m,p⟩:=bq l1;obtain⟨g,q,h⟩:=ar h;obtain⟨s,t,h⟩:=bg h;have w:(a.2.2.map (ai .u)).set (B3 a.2.1) (.agg [.i a.1,.i g.F.N,.lst .u 1 (g.F.F.map AV.i),.i g.N.N,.i g.N.F])=s.map (ai .u):=by rw[<-t,List.map_set];rfl
  obtain⟨j,x,h⟩:=ar h;obtain⟨y,a1,h⟩:=bg h;have b1:(s.map (ai .u)).set (B3 a.2.1) (.agg [.i j.Id,.i (IntKind.wrap .i64 (a.1+1)),.lst .u 1 (j.F.F.map AV.i),.i j.N.N,.i j.N.F])=y.map (ai .u):=by rw[<-a1,List.map_set];rfl
  obtain⟨b,c1,h⟩:=ar h;obtain⟨c,m1,h⟩:=ar h;obtain⟨d1,g1,h⟩:=bg h;have p1:(y.map (ai .u)).set (B3 a.2.1) (.agg [.i b.Id,.i b.F.N,.lst .u 1 (c.2.map AV.i),.i b.N.N,.i b.N.F])=d1.map (ai .u):=by rw[<-g1,List.map_set];rfl
  have f:=ZA d (ZA m (ZA p (ZA q (ZA w (ZA x (ZA b1 c1))))));refine ZF f ?_;refine ZD (v:=.int .i64 c.1) (ys':=c.2.map AV.i) (z:=.agg [.i b.Id,.i b.F.N,.lst .u 1 (c.2.map AV.i),.i b.N.N,.i b.N.F]) (by simp only[VS1,VS2,VS3,VS4,VS5,VS6,VT1,VT2,bj,bl,decide_true,decide_false,A9,A8,cG,cF,cE,ne_eq,not_false_eq_true,B0,B1,true_and,false_and,A5,A6,↓reduceIte,reduceCtorEq,A2,A7,A3,B2,d,m,p,q,w,x,b1,c1];exact afc _ _ m1) (by simp[AV.flat,VT1,VT2]) (by simp[pM,kY,dU,ck,cY,lj,pW,pT,pR,lg,cm,bK,dS,cg,iU,cZ,cn,bL,ji,ja,gH,cU,cR,cQ,cS,ce,da,ch,cX,cV,db,yR]) (by simp[VS1,VS2,VS3,VS4,VS5,VS6,VT1,VT2]) (by simp[AV.flat,VT1,VT2]) rfl ?_;refine ZG ?_;obtain⟨k,q1,h⟩:=ar h;obtain⟨i1,j1,h⟩:=bg h;have s1:(d1.map (ai .u)).set (B3 a.2.1) (.agg [.i k.Id,.i k.F.N,.lst .u 1 (k.F.F.map AV.i),.i c.1,.i k.N.F])=i1.map (ai .u):=by rw[<-j1,List.map_set];rfl
  obtain⟨l,t1,h⟩:=ar h;obtain⟨u1,k1,h⟩:=bg h;have v1:(i1.map (ai .u)).set (B3 a.2.1) (.agg [.i l.Id,.i l.F.N,.lst .u 1 (l.F.F.map AV.i),.i l.N.N,.i (IntKind.wrap .i64 (c.1+1))])=u1.map (ai .u):=by rw[<-k1,List.map_set];rfl
  cases h;exact ZL (ZA f (ZA p1 (ZA q1 (ZA s1 (ZA t1 v1))))) (ZA e (ZA t.symm (ZA a1.symm (ZA g1.symm (ZA j1.symm k1.symm)))))
 ·cases h;exact ZL d e⟩
def VZ(b:Int)(a:List af){r:Int×List af}(h:JE b a=some r):OkH A1 73 [.sl 1000000000 0 a.length,.i b] [(1000000000,.arr 5 (a.map (ai .u)))] (.i r.1) ([(1000000000,.arr 5 (r.2.map (ai .u)))]):=by
 refine jf (lr:=[1000000000]) cr air rfl ?_;unfold JE at h;simp only[ZC,aas,V85];obtain⟨d,c,h⟩:=ar h;try refine ZF trivial ?_
 refine ba (bP (bf CL.w c ?_)) ?_
 ·exact ZK (ZA @Ui.eq_1 @EC.eq_1)
 ·simp only[ZC,EC,Eb];cases h;exact ZL trivial @V85.eq_1
def Wz(d:Int)(a:List ByteArray)(b:List aw)(c:List af){r:Int×List ByteArray×List aw×List af}(h:Ij d a b c=some r):OkH A1 29 [.agg [.sl 1000000000 0 a.length,.sl 1000000001 0 b.length,.sl 1000000002 0 c.length],.i d] [(1000000000,.arr 1 (a.map AV.z)),(1000000001,.arr 4 (b.map (au .u))),(1000000002,.arr 5 (c.map (ai .u)))] (.i r.1) ([(1000000000,.arr 1 (r.2.1.map AV.z)),(1000000001,.arr 4 (r.2.2.1.map (au .u))),(1000000002,.arr 5 (r.2.2.2.map (ai .u)))]):=by
 refine jf (lr:=[1000000000,1000000001,1000000002]) cr aiw rfl ?_;unfold Ij at h;simp only[ZC,aah,V85];obtain⟨k,j,h⟩:=ar h;refine ZF trivial ?_;refine ZWG trivial (CW.w _ j) [1000000000,1000000001] [] ?_;obtain⟨l,g,h⟩:=ar h;refine ZF trivial ?_;refine⟨by simp[pM,kY,dU,ck,cY,lj,pW,pT,pR,lg,cm,bK,dS,cg,iU,cZ,cn,bL,ji,ja,gH,cU,cR,cQ,cS,ce,da,ch,cX,cV,db,yR],gm (ok:=⟨_,_,_⟩) (by simp only[VS1,VS2,VS3,VS4,VS5,VS6,VT1,VT2,bj,bl,decide_true,decide_false,A9,A8,cG,cF,cE,ne_eq,not_false_eq_true,B0,B1,true_and,false_and,A5,A6,↓reduceIte,reduceCtorEq,A2,A7,A3,B2];first|exact VZ _ _ g|(have hw:=VZ _ _ g;simp only[VS1,VS2,VS3,VS4,VS5,VS6,VT1,VT2,bj,bl,decide_true,decide_false,A9,A8,cG,cF,cE,ne_eq,not_false_eq_true,B0,B1,true_and,false_and,A5,A6,↓reduceIte,reduceCtorEq,A2,A7,A3,B2] at hw;exact hw)) (by simp[VS1,VS2,VS3,VS4,VS5,VS6,VT1,VT2]) (by first|exact mV [1000000000] rfl (by decide+kernel)|exact lS [1000000000] [] rfl (by decide+kernel) (by simp[VS1,VS2,VS3,VS4,VS5,VS6,VT1,VT2])|simp[VS1,VS2,VS3,VS4,VS5,VS6,VT1,VT2]) ?_⟩;refine ZG ?_;cases h;exact ZL trivial @V85.eq_1
def Xr(v:Int×Int×List ax):St:=⟨[(0,.sl 1000000000 0 v.2.2.length),(1,.i v.1),(5,.i v.2.1)],[(1000000000,.arr 2 (v.2.2.map (aF .u)))]⟩
def ER(v:Int×List ax):St:=⟨[(1,.i v.1)],[(1000000000,.arr 2 (v.2.map (aF .u)))]⟩
instance:CL (JC) wx [0,1,5] [1000000000] (Xr) (qX 0 [1] [1000000000] (ER)):=⟨fun a o h=>by
 have e:=ZA @Xr.eq_1 @ER.eq_1;unfold JC at h;simp only[ZC,Xr,wx];obtain⟨c,h⟩|⟨c,h⟩:=aM h
 ·obtain⟨g1,x,h⟩:=ar h;have g:=bq x;obtain⟨i1,y,h⟩:=ar h;obtain⟨j,k⟩:=bq y;obtain⟨a1,l,h⟩:=ar h;obtain⟨m,p,h⟩:=bg h;have q:(a.2.2.map (aF .u)).set (B3 a.2.1) (.agg [.b ((Int.tmod a.1 3)==0),.lst .u 1 (a1.F.map AV.i)])=m.map (aF .u):=by rw[<-p,List.map_set];rfl
  obtain⟨s,t,h⟩:=ar h;obtain⟨d,b1,h⟩:=ar h;obtain⟨c1,w,h⟩:=bg h;have d1:(m.map (aF .u)).set (B3 a.2.1) (.agg [.b s.N,.lst .u 1 (d.2.map AV.i)])=c1.map (aF .u):=by rw[<-w,List.map_set];rfl
  have f:=ZA c (ZA g (ZA j (ZA k (ZA l (ZA q t)))));refine ZF f ?_;refine ZD (v:=.int .i64 d.1) (ys':=d.2.map AV.i) (z:=.agg [.b s.N,.lst .u 1 (d.2.map AV.i)]) (by simp only[VS1,VS2,VS3,VS4,VS5,VS6,VT1,VT2,bj,bl,decide_true,decide_false,A9,A8,cG,cF,cE,ne_eq,not_false_eq_true,B0,B1,true_and,false_and,A5,A6,↓reduceIte,reduceCtorEq,A2,A7,A3,B2,c,g,j,k,l,q,t];exact afc _ _ b1) (by simp[AV.flat,VT1,VT2]) (by simp[pM,kY,dU,ck,cY,lj,pW,pT,pR,lg,cm,bK,dS,cg,iU,cZ,cn,bL,ji,ja,gH,cU,cR,cQ,cS,ce,da,ch,cX,cV,db,yR]) (by simp[VS1,VS2,VS3,VS4,VS5,VS6,VT1,VT2]) (by simp[AV.flat,VT1,VT2]) rfl ?_;refine ZG ?_;cases h;exact ZL (ZA f d1) (ZA e (ZA p.symm w.symm))
 ·cases h;exact ZL c e⟩
def w_dt(b:Int)(a:List ax){r:Int×List ax}(h:Np b a=some r):OkH A1 58 [.sl 1000000000 0 a.length,.i b] [(1000000000,.arr 2 (a.map (aF .u)))] (.i r.1) ([(1000000000,.arr 2 (r.2.map (aF .u)))]):=by
 refine jf (lr:=[1000000000]) cr agz rfl ?_;unfold Np at h;simp only[ZC,aap,V85];obtain⟨d,c,h⟩:=ar h;try refine ZF trivial ?_
 refine ba (bP (bf CL.w c ?_)) ?_
 ·exact ZK (ZA @Xr.eq_1 @ER.eq_1)
 ·simp only[ZC,ER,EB];cases h;exact ZL trivial @V85.eq_1
def w_du(j:Int)(a:List ByteArray)(b:List aw)(c:List af)(d:List af)(g:List Int){r:Int×List ByteArray×List aw×List af×List af×List Int}(h:LM j a b c d g=some r):OkH A1 21 [.agg [.sl 1000000000 0 a.length,.sl 1000000001 0 b.length,.sl 1000000002 0 c.length,.sl 1000000003 0 d.length,.sl 1000000004 0 g.length],.i j] [(1000000000,.arr 1 (a.map AV.z)),(1000000001,.arr 4 (b.map (au .u))),(1000000002,.arr 5 (c.map (ai .u))),(1000000003,.arr 5 (d.map (ai .u))),(1000000004,.arr 1 (g.map AV.i))] (.i r.1) ([(1000000000,.arr 1 (r.2.1.map AV.z)),(1000000001,.arr 4 (r.2.2.1.map (au .u))),(1000000002,.arr 5 (r.2.2.2.1.map (ai .u))),(1000000003,.arr 5 (r.2.2.2.2.1.map (ai .u))),(1000000004,.arr 1 (r.2.2.2.2.2.map AV.i))]):=by
 refine jf (lr:=[1000000000,1000000001,1000000002,1000000003,1000000004]) cr ajg rfl ?_;unfold LM at h;simp only[ZC,Yu,V85];obtain⟨p,k,h⟩:=ar h;refine ZF trivial ?_;refine⟨by simp[pM,kY,dU,ck,cY,lj,pW,pT,pR,lg,cm,bK,dS,cg,iU,cZ,cn,bL,ji,ja,gH,cU,cR,cQ,cS,ce,da,ch,cX,cV,db,yR],gm (ok:=⟨_,_,_⟩) (by simp only[VS1,VS2,VS3,VS4,VS5,VS6,VT1,VT2,bj,bl,decide_true,decide_false,A9,A8,cG,cF,cE,ne_eq,not_false_eq_true,B0,B1,true_and,false_and,A5,A6,↓reduceIte,reduceCtorEq,A2,A7,A3,B2];first|exact Wz _ _ _ _ k|(have hw:=Wz _ _ _ _ k;simp only[VS1,VS2,VS3,VS4,VS5,VS6,VT1,VT2,bj,bl,decide_true,decide_false,A9,A8,cG,cF,cE,ne_eq,not_false_eq_true,B0,B1,true_and,false_and,A5,A6,↓reduceIte,reduceCtorEq,A2,A7,A3,B2] at hw;exact hw)) (by simp[VS1,VS2,VS3,VS4,VS5,VS6,VT1,VT2]) (by first|exact mV [1000000000,1000000001,1000000002] rfl (by decide+kernel)|exact lS [1000000000,1000000001,1000000002] [] rfl (by decide+kernel) (by simp[VS1,VS2,VS3,VS4,VS5,VS6,VT1,VT2])|simp[VS1,VS2,VS3,VS4,VS5,VS6,VT1,VT2]) ?_⟩;refine ZG ?_;obtain⟨q,l,h⟩:=ar h;refine ZF trivial ?_;refine⟨by simp[pM,kY,dU,ck,cY,lj,pW,pT,pR,lg,cm,bK,dS,cg,iU,cZ,cn,bL,ji,ja,gH,cU,cR,cQ,cS,ce,da,ch,cX,cV,db,yR],gm (ok:=⟨_,_,_⟩) (by simp only[VS1,VS2,VS3,VS4,VS5,VS6,VT1,VT2,bj,bl,decide_true,decide_false,A9,A8,cG,cF,cE,ne_eq,not_false_eq_true,B0,B1,true_and,false_and,A5,A6,↓reduceIte,reduceCtorEq,A2,A7,A3,B2];first|exact VZ _ _ l|(have hw:=VZ _ _ l;simp only[VS1,VS2,VS3,VS4,VS5,VS6,VT1,VT2,bj,bl,decide_true,decide_false,A9,A8,cG,cF,cE,ne_eq,not_false_eq_true,B0,B1,true_and,false_and,A5,A6,↓reduceIte,reduceCtorEq,A2,A7,A3,B2] at hw;exact hw)) (by simp[VS1,VS2,VS3,VS4,VS5,VS6,VT1,VT2]) (by first|exact mV [1000000000] rfl (by decide+kernel)|exact lS [1000000000] [] rfl (by decide+kernel) (by simp[VS1,VS2,VS3,VS4,VS5,VS6,VT1,VT2])|simp[VS1,VS2,VS3,VS4,VS5,VS6,VT1,VT2]) ?_⟩;refine ZG ?_;obtain⟨s,m,h⟩:=ar h;refine ZF trivial ?_;refine ZWG trivial (CW.w _ m) [1000000000] [] ?_;cases h;exact ZL trivial @V85.eq_1
def UZ(a:List Int)(v:Int×Int):St:=⟨[(0,.lst .o 1 (a.map AV.i)),(1,.i v.1),(5,.i v.2)],[]⟩
instance(b:List Int):CL (Jj b) Fu [0,1,5] [] (UZ b) (qS (qX 0 [1] [] (jp)) (qR V85 (fun r=>.i r))):=⟨fun d o h=>by
 unfold Jj at h;simp only[ZC,UZ,Fu];exact ZT trivial (ZA @UZ.eq_1 (ZA @jp.eq_1 (ZA @V85.eq_1 @Fu.eq_1))) h⟩
instance(a:List Int)(b:Int):CW (tU a b) (fun(r:Int)=>Ok A1 23 [.lst .o 1 (a.map AV.i),.i b] (.i r)):=⟨fun r h=>ZO m23 (tU.eq_1 _ _) ZJ (ZA @UZ.eq_1 (ZA @jp.eq_1 (ZA @aam.eq_1 (ZA @V85.eq_1 @A23.eq_1)))) h⟩
instance(a:List ByteArray):CL (Jl a) xq [0,1,5] [] (S_c a) (qS (qX 0 [1] [] (jp)) (qR V85 (fun r=>.i r))):=⟨fun d o h=>by
 unfold Jl at h;simp only[ZC,S_c,xq];exact ZT trivial (ZA @S_c.eq_1 (ZA @jp.eq_1 (ZA @V85.eq_1 @xq.eq_1))) h⟩
instance(a:List ByteArray)(b:Int):CW (GR a b) (fun(r:Int)=>Ok A1 162 [.lst .o 1 (a.map AV.z),.i b] (.i r)):=⟨fun r h=>ZO m162 (GR.eq_1 _ _) ZJ (ZA @S_c.eq_1 (ZA @jp.eq_1 (ZA @Pf.eq_1 (ZA @V85.eq_1 @A162.eq_1)))) h⟩
def XJ(a:List aw)(v:Int×Int):St:=⟨[(0,.lst .o 4 (a.map (au .o))),(1,.i v.1),(5,.i v.2)],[]⟩
instance(j:List aw):CL (Kd j) wm [0,1,5] [] (XJ j) (qS (qX 0 [1] [] (jp)) (qR V85 (fun r=>.i r))):=⟨fun l o h=>by
 unfold Kd at h;simp only[ZC,XJ,wm];exact ZT trivial (ZA @V85.eq_1 (ZA @XJ.eq_1 (ZA @jp.eq_1 @wm.eq_1))) h⟩
instance(a:List aw)(b:Int):CW (Ka a b) (fun(r:Int)=>Ok A1 163 [.lst .o 4 (a.map (au .o)),.i b] (.i r)):=⟨fun r h=>ZO m163 (Ka.eq_1 _ _) ZJ (ZA @XJ.eq_1 (ZA @jp.eq_1 (ZA @Rb.eq_1 (ZA @V85.eq_1 @A163.eq_1)))) h⟩
instance(b:ah)(d:Int):CW (HE b d) (fun(r:Int)=>Ok A1 104 [(aG .o b),.i d] (.i r)):=⟨fun r h=>ZO m104 (HE.eq_1 _ _) trivial (ZA @V85.eq_1 @A104.eq_1) h⟩
instance(g:List af):CL (Kc g) DS [0,1,5] [] (Al g) (qS (qX 0 [1] [] (jp)) (qR V85 (fun r=>.i r))):=⟨fun m o h=>by
 unfold Kc at h;simp only[ZC,Al,DS];exact ZT trivial (ZA @V85.eq_1 (ZA @Al.eq_1 (ZA @jp.eq_1 @DS.eq_1))) h⟩
instance(a:List af)(b:Int):CW (yU a b) (fun(r:Int)=>Ok A1 78 [.lst .o 5 (a.map (ai .o)),.i b] (.i r)):=⟨fun r h=>ZO m78 (yU.eq_1 _ _) ZJ (ZA @Al.eq_1 (ZA @jp.eq_1 (ZA @YI.eq_1 (ZA @V85.eq_1 @A78.eq_1)))) h⟩
instance(b:aB)(d:Int):CW (JG b d) (fun(r:Int)=>Ok A1 44 [(bv .o b),.i d] (.i r)):=⟨fun r h=>ZO m44 (JG.eq_1 _ _) trivial (ZA @V85.eq_1 @A44.eq_1) h⟩
instance(a:ae)(g:Int):CW (yf a g) (fun(r:Int)=>Ok A1 30 [(aI .o a),.i g] (.i r)):=⟨fun r h=>ZO m30 (yf.eq_1 _ _) trivial (ZA @V85.eq_1 @A30.eq_1) h⟩
def w_gj(j:aB)(b1:List ax){r:Bool}(h:VV j b1=some r):Ok A1 12 [(bv .o j),.lst .o 2 (b1.map (aF .o))] (.b r):=by
 have e:=@V85.eq_1;refine bJ cr m12 rfl ?_;unfold VV at h;simp only[ZC,A12,V85,dg];obtain⟨y4,i2,h⟩:=ar h;refine ZF trivial ?_;refine ZSG trivial (CW.w _ i2) ?_;obtain⟨d,h⟩|⟨d,h⟩:=aM h
 ·cases h;exact ZL d e
 ·obtain⟨z4,j2,h⟩:=ar h;refine ZF d ?_;refine ZSG d (CW.w _ j2) ?_;obtain⟨k,h⟩|⟨k,h⟩:=aM h
  ·cases h;exact ZL (ZA d k) e
  ·obtain⟨a5,k2,h⟩:=ar h;have f:=ZA d k;refine ZF f ?_;refine ZUG f (CW.w _ k2) ?_;obtain⟨b5,l2,h⟩:=ar h;refine ZF f ?_;refine ZUG f (CW.w _ l2) ?_;obtain⟨c,m2,h⟩:=ar h;refine ZF f ?_;refine ZWG f (CW.w _ m2) [4,500000320,500000321,500000322,500000323,500000324,1000000000,1000000001,1000000002,1000000003] [3600004,503600320,503600321,503600322,503600323,503600324] ?_;obtain⟨g1,p2,h⟩:=bg h;have t:sub (c.2.2.2.2.2.2.2.2.1.map AV.z) c.1 c.2.1=g1.map AV.z:=by rw[bz,p2]
   obtain⟨i1,q2,h⟩:=bg h;have w:sub (c.2.2.2.2.2.2.2.2.2.1.map (au .u)) c.2.2.1 c.2.2.2.1=i1.map (au .u):=by rw[bz,q2]
   obtain⟨j1,s2,h⟩:=bg h;have x:sub (c.2.2.2.2.2.2.2.2.2.2.1.map (ai .m)) c.2.2.2.2.1 c.2.2.2.2.2.1=j1.map (ai .m):=by rw[bz,s2]
   obtain⟨y,t2,h⟩:=ar h;have f:=ZA f (ZA t (ZA w x));refine ZF f ?_;refine ZUG f (CW.w _ t2) ?_;obtain⟨a2,u2,h⟩:=ar h;refine ZF f ?_;refine ZUG f (CW.w _ u2) ?_;obtain⟨a,v2,h⟩:=ar h;refine ZF f ?_;refine ZUG f (CW.w _ v2) ?_;obtain⟨w2,x2,h⟩:=ar h;try refine ZF f ?_
   refine ba (sh:=(fun v=>⟨[(1,.lst .o 2 (b1.map (aF .o))),(2,.bp .o (bv .o j) 0),(6,.lst .o 1 (c.2.2.2.2.2.2.2.1.map AV.i)),(7,.bp .o (.agg [.lst .o 1 (g1.map AV.z),.lst .o 4 (i1.map (au .o)),.lst .o 5 (j1.map (ai .o)),.lst .o 5 (c.2.2.2.2.2.2.2.2.2.2.2.1.map (ai .o)),.lst .o 1 (c.2.2.2.2.2.2.2.2.2.2.2.2.1.map AV.i)]) 0),(8,.b c.2.2.2.2.2.2.1),(9,.pt 9 0 0),(10,.sl 10 0 a2.length),(11,.sl 11 0 a.1.length),(12,.pt 12 0 0),(13,.b a.2.2),(64,.b v)],[(9,.var (.agg [.sl 40 0 y.F.N.length,.sl 1040 0 y.F.F.length,.sl 2040 0 y.N.length])),(10,.arr 2 (a2.map (aF .u))),(11,.arr 1 (a.1.map AV.i)),(12,.var (.agg [.sl 1046 0 a.2.1.F.F.N.length,.sl 2046 0 a.2.1.F.F.F.length,.sl 3046 0 a.2.1.F.N.length,.sl 4046 0 a.2.1.N.length,.sl 5046 0 a.2.1.L.length])),(40,.arr 1 (y.F.N.map AV.z)),(1040,.arr 4 (y.F.F.map (au .u))),(1046,.arr 1 (a.2.1.F.F.N.map AV.z)),(2040,.arr 5 (y.N.map (ai .u))),(2046,.arr 4 (a.2.1.F.F.F.map (au .u))),(3046,.arr 5 (a.2.1.F.N.map (ai .u))),(4046,.arr 5 (a.2.1.N.map (ai .u))),(5046,.arr 1 (a.2.1.L.map AV.i))]⟩)) (s:=w2) ?_ ?_
   ·replace h:=x2;obtain⟨c5,y2,h⟩:=ar h;refine ZF f ?_;refine ZSG f (CW.w _ y2) ?_;obtain⟨k1,h⟩|⟨k1,h⟩:=aM h
    ·cases h;exact ZL (ZA f k1) trivial
    ·obtain⟨d5,z2,h⟩:=ar h;have f:=ZA f k1;refine ZF f ?_;refine ZSG f (CW.w _ z2) ?_;obtain⟨l1,h⟩|⟨l1,h⟩:=aM h
     ·cases h;exact ZL (ZA f l1) trivial
     ·cases h;exact ZL (ZA f l1) trivial
   ·simp only[ZC,ZP];obtain⟨l,h⟩|⟨l,h⟩:=aM h
    ·cases h;exact ZL (ZA f l) e
    ·obtain⟨g5,a3,h⟩:=ar h;have f:=ZA f l;refine ZF f ?_;refine ZUG f (CW.w _ a3) ?_;obtain⟨i5,b3,h⟩:=ar h;refine ZF f ?_;refine ZSG f (CW.w _ b3) ?_;obtain⟨p,h⟩|⟨p,h⟩:=aM h
     ·cases h;exact ZL (ZA f p) e
     ·obtain⟨j5,c3,h⟩:=ar h;have f:=ZA f p;refine ZF f ?_;refine ZUG f (CW.w _ c3) ?_;obtain⟨k5,d3,h⟩:=ar h;refine ZF f ?_;refine ZSG f (CW.w _ d3) ?_;obtain⟨q,h⟩|⟨q,h⟩:=aM h
      ·cases h;exact ZL (ZA f q) e
      ·obtain⟨l5,b2,h⟩:=ar h;have f:=ZA f q;refine ZF f ?_;refine⟨by simp[pM,kY,dU,ck,cY,lj,pW,pT,pR,lg,cm,bK,dS,cg,iU,cZ,cn,bL,ji,ja,gH,cU,cR,cQ,cS,ce,da,ch,cX,cV,db,yR],gm (ok:=⟨_,_,_⟩) (by simp only[VS1,VS2,VS3,VS4,VS5,VS6,VT1,VT2,bj,bl,decide_true,decide_false,A9,A8,cG,cF,cE,ne_eq,not_false_eq_true,B0,B1,true_and,false_and,A5,A6,↓reduceIte,reduceCtorEq,A2,A7,A3,B2,d,k,t,w,x,l,p,q];first|exact Wz _ _ _ _ b2|(have hw:=Wz _ _ _ _ b2;simp only[VS1,VS2,VS3,VS4,VS5,VS6,VT1,VT2,bj,bl,decide_true,decide_false,A9,A8,cG,cF,cE,ne_eq,not_false_eq_true,B0,B1,true_and,false_and,A5,A6,↓reduceIte,reduceCtorEq,A2,A7,A3,B2,d,k,t,w,x,l,p,q] at hw;exact hw)) (by simp[VS1,VS2,VS3,VS4,VS5,VS6,VT1,VT2]) (by first|exact mV [1000000000,1000000001,1000000002] rfl (by decide+kernel)|exact lS [1000000000,1000000001,1000000002] [] rfl (by decide+kernel) (by simp[VS1,VS2,VS3,VS4,VS5,VS6,VT1,VT2])|simp[VS1,VS2,VS3,VS4,VS5,VS6,VT1,VT2]) ?_⟩;refine ZG ?_;obtain⟨m5,c2,h⟩:=ar h;refine ZF f ?_;refine⟨by simp[pM,kY,dU,ck,cY,lj,pW,pT,pR,lg,cm,bK,dS,cg,iU,cZ,cn,bL,ji,ja,gH,cU,cR,cQ,cS,ce,da,ch,cX,cV,db,yR],gm (ok:=⟨_,_,_⟩) (by simp only[VS1,VS2,VS3,VS4,VS5,VS6,VT1,VT2,bj,bl,decide_true,decide_false,A9,A8,cG,cF,cE,ne_eq,not_false_eq_true,B0,B1,true_and,false_and,A5,A6,↓reduceIte,reduceCtorEq,A2,A7,A3,B2,d,k,t,w,x,l,p,q];first|exact w_dt _ _ c2|(have hw:=w_dt _ _ c2;simp only[VS1,VS2,VS3,VS4,VS5,VS6,VT1,VT2,bj,bl,decide_true,decide_false,A9,A8,cG,cF,cE,ne_eq,not_false_eq_true,B0,B1,true_and,false_and,A5,A6,↓reduceIte,reduceCtorEq,A2,A7,A3,B2,d,k,t,w,x,l,p,q] at hw;exact hw)) (by simp[VS1,VS2,VS3,VS4,VS5,VS6,VT1,VT2]) (by first|exact mV [1000000000] rfl (by decide+kernel)|exact lS [1000000000] [] rfl (by decide+kernel) (by simp[VS1,VS2,VS3,VS4,VS5,VS6,VT1,VT2])|simp[VS1,VS2,VS3,VS4,VS5,VS6,VT1,VT2]) ?_⟩;refine ZG ?_;obtain⟨g3,i3,h⟩:=ar h;try refine ZF f ?_
       refine ba (sh:=(fun v=>⟨[(1,.lst .o 2 (b1.map (aF .o))),(2,.bp .o (bv .o j) 0),(6,.lst .o 1 (c.2.2.2.2.2.2.2.1.map AV.i)),(7,.bp .o (.agg [.lst .o 1 (g1.map AV.z),.lst .o 4 (i1.map (au .o)),.lst .o 5 (j1.map (ai .o)),.lst .o 5 (c.2.2.2.2.2.2.2.2.2.2.2.1.map (ai .o)),.lst .o 1 (c.2.2.2.2.2.2.2.2.2.2.2.2.1.map AV.i)]) 0),(8,.b c.2.2.2.2.2.2.1),(11,.sl 11 0 a.1.length),(12,.pt 12 0 0),(99,.b v)],[(11,.arr 1 (a.1.map AV.i)),(12,.var (.agg [.sl 1046 0 a.2.1.F.F.N.length,.sl 2046 0 a.2.1.F.F.F.length,.sl 3046 0 a.2.1.F.N.length,.sl 4046 0 a.2.1.N.length,.sl 5046 0 a.2.1.L.length])),(1046,.arr 1 (a.2.1.F.F.N.map AV.z)),(2046,.arr 4 (a.2.1.F.F.F.map (au .u))),(3046,.arr 5 (a.2.1.F.N.map (ai .u))),(4046,.arr 5 (a.2.1.N.map (ai .u))),(5046,.arr 1 (a.2.1.L.map AV.i))]⟩)) (s:=g3) ?_ ?_
       ·replace h:=i3;obtain⟨m1,h⟩|⟨m1,h⟩:=aM h
        ·cases h;exact ZL (ZA f m1) trivial
        ·obtain⟨p5,j3,h⟩:=ar h;have f:=ZA f m1;refine ZF f ?_;refine ZSG f (CW.w _ j3) ?_;obtain⟨p1,h⟩|⟨p1,h⟩:=aM h
         ·cases h;exact ZL (ZA f p1) trivial
         ·obtain⟨q5,k3,h⟩:=ar h;have f:=ZA f p1;refine ZF f ?_;refine ZSG f (CW.w _ k3) ?_;obtain⟨q1,h⟩|⟨q1,h⟩:=aM h
          ·cases h;exact ZL (ZA f q1) trivial
          ·cases h;exact ZL (ZA f q1) trivial
       ·simp only[ZC,YG];obtain⟨a1,h⟩|⟨a1,h⟩:=aM h
        ·cases h;exact ZL (ZA f a1) e
        ·obtain⟨d2,l3,h⟩:=ar h;have f:=ZA f a1;refine ZF f ?_;refine ZWG f (CW.w _ l3) [1000000000] [] ?_;obtain⟨g,g2,h⟩:=ar h;refine ZF f ?_;refine⟨by simp[pM,kY,dU,ck,cY,lj,pW,pT,pR,lg,cm,bK,dS,cg,iU,cZ,cn,bL,ji,ja,gH,cU,cR,cQ,cS,ce,da,ch,cX,cV,db,yR],gm (ok:=⟨_,_,_⟩) (by simp only[VS1,VS2,VS3,VS4,VS5,VS6,VT1,VT2,bj,bl,decide_true,decide_false,A9,A8,cG,cF,cE,ne_eq,not_false_eq_true,B0,B1,true_and,false_and,A5,A6,↓reduceIte,reduceCtorEq,A2,A7,A3,B2,d,k,t,w,x,l,p,q,a1];first|exact w_du _ _ _ _ _ _ g2|(have hw:=w_du _ _ _ _ _ _ g2;simp only[VS1,VS2,VS3,VS4,VS5,VS6,VT1,VT2,bj,bl,decide_true,decide_false,A9,A8,cG,cF,cE,ne_eq,not_false_eq_true,B0,B1,true_and,false_and,A5,A6,↓reduceIte,reduceCtorEq,A2,A7,A3,B2,d,k,t,w,x,l,p,q,a1] at hw;exact hw)) (by simp[VS1,VS2,VS3,VS4,VS5,VS6,VT1,VT2]) (by first|exact mV [1000000000,1000000001,1000000002,1000000003,1000000004] rfl (by decide+kernel)|exact lS [1000000000,1000000001,1000000002,1000000003,1000000004] [] rfl (by decide+kernel) (by simp[VS1,VS2,VS3,VS4,VS5,VS6,VT1,VT2])|simp[VS1,VS2,VS3,VS4,VS5,VS6,VT1,VT2]) ?_⟩;refine ZG ?_;obtain⟨m3,p3,h⟩:=bg h;have q3:sub (d2.2.map AV.i) 0 a.1.length=m3.map AV.i:=by rw[bz,p3]
         obtain⟨s5,s3,h⟩:=ar h;have f:=ZA f q3;refine ZF f ?_;refine ZSG f (CW.w _ s3) ?_;obtain⟨s1,h⟩|⟨s1,h⟩:=aM h
         ·cases h;exact ZL (ZA f s1) e
         ·obtain⟨t3,u3,h⟩:=bg h;have v3:sub (g.2.1.map AV.z) 0 a.2.1.F.F.N.length=t3.map AV.z:=by rw[bz,u3]
          obtain⟨w3,x3,h⟩:=bg h;have y3:sub (g.2.2.1.map (au .u)) 0 a.2.1.F.F.F.length=w3.map (au .u):=by rw[bz,x3]
          obtain⟨z3,a4,h⟩:=bg h;have b4:sub (g.2.2.2.1.map (ai .u)) 0 a.2.1.F.N.length=z3.map (ai .u):=by rw[bz,a4]
          obtain⟨c4,d4,h⟩:=bg h;have g4:sub (g.2.2.2.2.1.map (ai .u)) 0 a.2.1.N.length=c4.map (ai .u):=by rw[bz,d4]
          obtain⟨i4,j4,h⟩:=bg h;have k4:sub (g.2.2.2.2.2.map AV.i) 0 a.2.1.L.length=i4.map AV.i:=by rw[bz,j4]
          obtain⟨t5,l4,h⟩:=ar h;have f:=ZA f (ZA s1 (ZA v3 (ZA y3 (ZA b4 (ZA g4 k4)))));refine ZF f ?_;refine ZSG f (CW.w _ l4) ?_;obtain⟨c1,h⟩|⟨c1,h⟩:=aM h
          ·cases h;exact ZL (ZA f c1) e
          ·obtain⟨t1,h⟩|⟨t1,h⟩:=aM h
           ·cases h;exact ZL (ZA f (ZA c1 t1)) e
           ·obtain⟨u5,m4,h⟩:=ar h;have f:=ZA f (ZA c1 t1);refine ZF f ?_;refine ZUG f (CW.w _ m4) ?_;obtain⟨v5,p4,h⟩:=ar h;refine ZF f ?_;refine ZUG f (CW.w _ p4) ?_;obtain⟨w5,q4,h⟩:=ar h;refine ZF f ?_;refine ZUG f (CW.w _ q4) ?_;obtain⟨s4,t4,h⟩:=ar h;try refine ZF f ?_
            refine ba (sh:=(fun v=>⟨[(11,.sl 11 0 a.1.length),(12,.pt 12 0 0),(15,.i g.1),(142,.b v)],[(11,.arr 1 (d2.2.map AV.i)),(12,.var (.agg [.sl 1046 0 a.2.1.F.F.N.length,.sl 2046 0 a.2.1.F.F.F.length,.sl 3046 0 a.2.1.F.N.length,.sl 4046 0 a.2.1.N.length,.sl 5046 0 a.2.1.L.length])),(1046,.arr 1 (g.2.1.map AV.z)),(2046,.arr 4 (g.2.2.1.map (au .u))),(3046,.arr 5 (g.2.2.2.1.map (ai .u))),(4046,.arr 5 (g.2.2.2.2.1.map (ai .u))),(5046,.arr 1 (g.2.2.2.2.2.map AV.i))]⟩)) (s:=s4) ?_ ?_
            ·replace h:=t4;obtain⟨x5,u4,h⟩:=ar h;refine ZF f ?_;refine ZSG f (CW.w _ u4) ?_;obtain⟨u1,h⟩|⟨u1,h⟩:=aM h
             ·cases h;exact ZL (ZA f u1) trivial
             ·obtain⟨y5,v4,h⟩:=ar h;have f:=ZA f u1;refine ZF f ?_;refine ZSG f (CW.w _ v4) ?_;obtain⟨v1,h⟩|⟨v1,h⟩:=aM h
              ·cases h;exact ZL (ZA f v1) trivial
              ·cases h;exact ZL (ZA f v1) trivial
            ·simp only[ZC,Yy];obtain⟨w1,h⟩|⟨w1,h⟩:=aM h
             ·cases h;exact ZL (ZA f w1) e
             ·obtain⟨z5,w4,h⟩:=ar h;have f:=ZA f w1;refine ZF f ?_;refine ZSG f (CW.w _ w4) ?_;obtain⟨y1,h⟩|⟨y1,h⟩:=aM h
              ·cases h;exact ZL (ZA f y1) e
              ·obtain⟨a6,x4,h⟩:=ar h;have f:=ZA f y1;refine ZF f ?_;refine ZSG f (CW.w _ x4) ?_;obtain⟨d1,h⟩|⟨d1,h⟩:=aM h
               ·cases h;exact ZL (ZA f d1) e
               ·obtain⟨z1,h⟩|⟨z1,h⟩:=aM h
                ·cases h;exact ZL (ZA f (ZA d1 z1)) e
                ·cases h;exact ZL (ZA f (ZA d1 z1)) e
end Vs

