/-
  Part of the proof that FnExactCheapestPair returns true at every input.
-/
import Derived.Test.YtfmhphgpijjejaaGreatEb
set_option linter.defProp false
set_option linter.unusedSimpArgs false
set_option linter.unusedVariables false
set_option maxHeartbeats 1000000
set_option maxRecDepth 8000
namespace Vs
open Go Go.Proofs
attribute [local irreducible] AWP dU eff rI fS callM
theorem w_ff(a:Int)(p1Z0:ae){r:Bool}(h:LK a p1Z0=some r):Ok Tryz.prog 263 [.i a,.bp .o (.agg [.lst .o 1 (p1Z0.N.map AV.z),.lst .o 4 (p1Z0.F.map (ai .o))]) 0] (.b r):=by
 refine az ba m263 rfl ?_;unfold LK at h;simp only[ZC,A263,sr,aJ];obtain⟨d,c,h⟩:=af h;refine ZF trivial ?_;refine ZSG trivial (w_b _ _ _ c) ?_;cases h;exact ZL trivial @sr.eq_1
def Fh(a:List Int)(F_fZ0:Nat)(C_fZ0:List AV)(v:Int):St:=⟨[(0,.lst .o 1 (a.map AV.i)),(1,.fn F_fZ0 C_fZ0),(7,.i (a.length:Int)),(8,.i v)],[]⟩
theorem w_bb(c:List Int)(j:Int->Option Bool)(F_fZ0:Nat)(C_fZ0:List AV)(hC_fZ0:lV C_fZ0)(hf_fZ0:∀(x0:Int)(r:Bool),j x0=some r->Ok Tryz.prog F_fZ0 ((.i x0)::C_fZ0) (.b r))(k:Int)(o:Int⊕(Unit⊕Int))(h:zU c j k=some o):AWP (OkS Tryz.prog) ws (qL [0,1,7,8] [] (Fh c F_fZ0 C_fZ0) (qS (qX 0 [] [] (cq)) (qR aN (fun r=>.i r))) o) (Fh c F_fZ0 C_fZ0 k):=by
 have e:=ZA @Fh.eq_1 @cq.eq_1;unfold zU at h;simp only[ZC,Fh,ws];obtain⟨a,h⟩|⟨a,h⟩:=aj h
 ·obtain⟨m,d,h⟩:=af h;obtain⟨p,l,h⟩:=af h;have f:=ZA a (aO d);refine ZF f ?_;have f:=ZA f hC_fZ0.1;refine ZSG f (hf_fZ0 _ _ l) ?_;obtain⟨g,h⟩|⟨g,h⟩:=aj h
  ·cases h;exact ZL (ZA a (ZA (aO d) g)) (ZA @aN.eq_1 (ZA hC_fZ0.2 ((ch hC_fZ0))))
  ·cases h;exact ZL (ZA a (ZA (aO d) g)) (ZA e (ZA hC_fZ0.2 ((ch hC_fZ0))))
 ·cases h;exact ZL a (ZA e (ZA hC_fZ0.2 ((ch hC_fZ0))))
theorem w_fe(a:List Int)(c:Int->Option Bool){r:Int}(h:Ot a c=some r)(F_fZ0:Nat)(C_fZ0:List AV)(hC_fZ0:lV C_fZ0)(hf_fZ0:∀(x0:Int)(r:Bool),c x0=some r->Ok Tryz.prog F_fZ0 ((.i x0)::C_fZ0) (.b r)):Ok Tryz.prog 217 [.lst .o 1 (a.map AV.i),.fn F_fZ0 C_fZ0] (.i r):=by
 refine az ba m217 rfl ?_;unfold Ot at h;simp only[ZC,A217,aN,aJ];obtain⟨d,g,h⟩:=af h;try refine ZF trivial ?_
 refine bj (o:=d) (bz de (aD (w_bb a c F_fZ0 C_fZ0 hC_fZ0 hf_fZ0) g ?_)) (fun k hv=>?_) (fun l hv e τ hne hq=>?_)
 ·exact ZK (ZA @Fh.eq_1 (ZA @cq.eq_1 (ZA hC_fZ0.2 ((ch hC_fZ0)))))
 ·subst hv;simp only[] at h;simp only[ZC,cq,Ep];cases h;exact ZL trivial (ZA @aN.eq_1 (ZA hC_fZ0.2 ((ch hC_fZ0))))
 ·subst hv;simp only[] at h;obtain⟨rfl,j⟩:=hq;cases h;exact j
theorem w_dg(a:List Int)(c:Int->Option Bool){r:Bool}(h:JU a c=some r)(F_fZ0:Nat)(C_fZ0:List AV)(hC_fZ0:lV C_fZ0)(hf_fZ0:∀(x0:Int)(r:Bool),c x0=some r->Ok Tryz.prog F_fZ0 ((.i x0)::C_fZ0) (.b r)):Ok Tryz.prog 177 [.lst .o 1 (a.map AV.i),.fn F_fZ0 C_fZ0] (.b r):=by
 refine az ba m177 rfl ?_;unfold JU at h;simp only[ZC,A177,aN,aJ];obtain⟨g,d,h⟩:=af h;refine ZF trivial ?_;refine ZSG hC_fZ0.1 (w_fe _ _ d F_fZ0 C_fZ0 hC_fZ0 hf_fZ0) ?_;cases h;exact ZL trivial (ZA @aN.eq_1 (ZA hC_fZ0.2 ((ch hC_fZ0))))
theorem w_dh(a:ae)(d:List Int){r:Bool}(h:Jr a d=some r):Ok Tryz.prog 244 [.agg [.lst .o 1 (a.N.map AV.z),.lst .o 4 (a.F.map (ai .o))],.lst .o 1 (d.map AV.i)] (.b r):=by
 refine az ba m244 rfl ?_;unfold Jr at h;simp only[ZC,A244,aN,aJ];obtain⟨l,g,h⟩:=af h;refine ZF trivial ?_;refine ZSG trivial (w_co _ g) ?_;obtain⟨c,h⟩|⟨c,h⟩:=aj h
 ·obtain⟨m,j,h⟩:=af h;refine ZF c ?_;refine ZSG c (w_dg _ _ j 263 [.bp .o (.agg [.lst .o 1 (a.N.map AV.z),.lst .o 4 (a.F.map (ai .o))]) 0] ⟨fun ρ k=>by simp only[VS1,VS2,VS3,VS4,VS5,VS6,VT1,VT2,bJ,bK,decide_true,decide_false,List.nodup_nil,List.nodup_cons,fg,fd,ff,ne_eq,not_false_eq_true,Int.reduceEq,Int.reduceNe,true_and,false_and,Nat.reduceSub,Nat.reduceMul,↓reduceIte,reduceCtorEq,Nat.reduceEqDiff,Nat.reduceAdd,Nat.reduceLeDiff,Int.reduceLE],by simp[aF,AV.ments]⟩ (fun _ _ h=>w_ff _ _ h)) ?_;cases h;exact ZL c @aN.eq_1
 ·cases h;exact ZL c @aN.eq_1
theorem w_cg(b:List Int){r:List Int}(h:zV b=some r):Ok Tryz.prog 80 [.lst .o 1 (b.map AV.i)] (.lst .u 1 (r.map AV.i)):=by
 refine az ba m80 rfl ?_;unfold zV at h;simp only[ZC,A80,bq,aJ];obtain⟨a,h⟩|⟨a,h⟩:=aj h
 ·refine ZF a ?_;refine And.intro ?_ ?_
  ·replace h:=Sg h;cases h;exact ZL a @bq.eq_1
  ·replace h:=SQ h;obtain⟨g,c,h⟩:=af h;cases h;exact ZL (ZA a (aZ c)) @bq.eq_1
 ·obtain⟨j,d,h⟩:=af h;cases h;exact ZL (ZA a (aZ d)) @bq.eq_1
theorem w_cp(a:ax)(d:Int){r:Int}(h:Bn a d=some r):Ok Tryz.prog 215 [.agg [.i a.A,.i a.B,.i a.N,.i a.F],.i d] (.i r):=by
 refine az ba m215 rfl ?_;unfold Bn at h;simp only[ZC,A215,aN,aJ];obtain⟨b,h⟩|⟨b,h⟩:=aj h
 ·cases h;exact ZL b @aN.eq_1
 ·obtain⟨c,h⟩|⟨c,h⟩:=aj h
  ·cases h;exact ZL (ZA b c) @aN.eq_1
  ·cases h;exact ZL (ZA b c) @aN.eq_1
def S_x(b:Int)(c:Int)(d:List Int)(a:ae)(v:Int×Int×List ah×Int×ae):St:=⟨[(0,.i b),(1,.i c),(2,.lst .m 1 (d.map AV.i)),(7,.pt 1000000006 0 0),(25,.lst .o 4 (((a).F).map (ai .o))),(26,.i (((a).F).length:Int)),(27,.i v.1)],[(470000128,.arr 2 (v.2.2.1.map (aw .u))),(1000000001,.var (.i v.2.1)),(1000000002,.var (.sl 470000128 0 v.2.2.1.length)),(1000000004,.var (.i v.2.2.2.1)),(1000000005,.var (.agg [.lst .o 1 (((v.2.2.2.2).N).map AV.z),.lst .o 4 (((v.2.2.2.2).F).map (ai .o))])),(1000000006,.var (.fn 264 [.pt 1000000001 0 0,.pt 1000000002 0 0,.pt 1000000004 0 0,.pt 1000000005 0 0,.pt 1000000006 0 0]))]⟩
def Ls(v:Int×List ah×Int×ae):St:=⟨[],[(470000128,.arr 2 (v.2.1.map (aw .u))),(1000000001,.var (.i v.1)),(1000000002,.var (.sl 470000128 0 v.2.1.length)),(1000000004,.var (.i v.2.2.1)),(1000000005,.var (.agg [.lst .o 1 (((v.2.2.2).N).map AV.z),.lst .o 4 (((v.2.2.2).F).map (ai .o))])),(1000000006,.var (.fn 264 [.pt 1000000001 0 0,.pt 1000000002 0 0,.pt 1000000004 0 0,.pt 1000000005 0 0,.pt 1000000006 0 0]))]⟩
theorem w_x(g:Int)(j:Int)(a:List Int)(p:Int)(k:List ah)(q:Int)(d:ae)(b1:Int->Int->List Int->Int->List ah->Int->ae->Option (Int×List ah×Int×ae))(l1:∀(g:Int)(j:Int)(a:List Int)(p:Int)(k:List ah)(q:Int)(d:ae){r:Int×List ah×Int×ae},b1 g j a p k q d=some r->OkM Tryz.prog 264 [.i g,.i j,.sl 1000000000 0 a.length,.pt 1000000001 0 0,.pt 1000000002 0 0,.pt 1000000004 0 0,.pt 1000000005 0 0,.pt 1000000006 0 0] [(1000000000,.arr 1 (a.map AV.i)),(1000000001,.var (.i p)),(1000000002,.var (.sl 1000000003 0 k.length)),(1000000003,.arr 2 (k.map (aw .u))),(1000000004,.var (.i q)),(1000000005,.var (.agg [.lst .o 1 (((d).N).map AV.z),.lst .o 4 (((d).F).map (ai .o))])),(1000000006,.var (.fn 264 [.pt 1000000001 0 0,.pt 1000000002 0 0,.pt 1000000004 0 0,.pt 1000000005 0 0,.pt 1000000006 0 0]))] (.tup []) ([(470000128,.arr 2 (r.2.1.map (aw .u))),(1000000001,.var (.i r.1)),(1000000002,.var (.sl 470000128 0 r.2.1.length)),(1000000004,.var (.i r.2.2.1)),(1000000005,.var (.agg [.lst .o 1 (((r.2.2.2).N).map AV.z),.lst .o 4 (((r.2.2.2).F).map (ai .o))])),(1000000006,.var (.fn 264 [.pt 1000000001 0 0,.pt 1000000002 0 0,.pt 1000000004 0 0,.pt 1000000005 0 0,.pt 1000000006 0 0]))]))(c:Int×Int×List ah×Int×ae)(o:(Int×Int×List ah×Int×ae)⊕(Int×List ah×Int×ae))(h:M_x g j a d b1 c=some o):AWP (OkS Tryz.prog) pJ (qL [0,1,2,7,25,26,27] [470000128,1000000001,1000000002,1000000004,1000000005,1000000006] (S_x g j a d) (qX 0 [] [470000128,1000000001,1000000002,1000000004,1000000005,1000000006] (Ls)) o) (S_x g j a d c):=by
 have e:=ZA @S_x.eq_1 @Ls.eq_1;unfold M_x at h;simp only[ZC,S_x,pJ];obtain⟨t,h⟩|⟨t,h⟩:=aj h
 ·obtain⟨b2,m1,h⟩:=af h;obtain⟨p1,q1,h⟩:=af h;have f:=ZA t (aO m1);refine ZF f ?_;refine ZSG f (w_cp _ _ q1) ?_;obtain⟨s1,t1,h⟩:=af h;try refine ZF f ?_
  refine aG (sh:=(fun v=>⟨[(0,.i g),(1,.i j),(2,.lst .m 1 (a.map AV.i)),(7,.pt 1000000006 0 0),(11,.i c.1),(13,.i p1),(25,.lst .o 4 (((d).F).map (ai .o))),(26,.i (((d).F).length:Int)),(27,.i c.1),(43,.b v)],[(470000128,.arr 2 (c.2.2.1.map (aw .u))),(1000000001,.var (.i c.2.1)),(1000000002,.var (.sl 470000128 0 c.2.2.1.length)),(1000000004,.var (.i c.2.2.2.1)),(1000000005,.var (.agg [.lst .o 1 (((c.2.2.2.2).N).map AV.z),.lst .o 4 (((c.2.2.2.2).F).map (ai .o))])),(1000000006,.var (.fn 264 [.pt 1000000001 0 0,.pt 1000000002 0 0,.pt 1000000004 0 0,.pt 1000000005 0 0,.pt 1000000006 0 0]))]⟩)) (s:=s1) ?_ ?_
  ·replace h:=t1;obtain⟨w,h⟩|⟨w,h⟩:=aj h
   ·obtain⟨c2,u1,h⟩:=af h;cases h;exact ZL (ZA f (ZA w (aZ u1))) trivial
   ·cases h;exact ZL (ZA f w) trivial
  ·simp only[ZC,sP];obtain⟨x,h⟩|⟨x,h⟩:=aj h
   ·obtain⟨d2,v1,h⟩:=af h;have c1:(0:Int)<=(a.length:Int):=Int.natCast_nonneg _;obtain⟨y,l,h⟩:=bh h;have w1:Row.arr 1 [(.i c.1:AV)]=Row.arr 1 (y.map AV.i):=by rw[<-l];rfl
    have d1:y.length=1:=by rw[<-l];rfl
    obtain⟨g2,y1,h⟩:=af h;have g1:=aZ y1;obtain⟨i1,a1,h⟩:=bh h;have z1:a.map AV.i++y.map AV.i=i1.map AV.i:=by rw[<-a1,List.map_append]
    have j1:a.length+1=i1.length:=by simp[<-l,<-a1]<;>omega
    rw[j1] at g1;have k1:(0:Nat)<1:=by decide
    obtain⟨i2,a2,h⟩:=af h;have f:=ZA f (ZA x (ZA (aZ v1) (ZA c1 (ZA w1 (ZA d1 (ZA g1 (ZA z1 (ZA j1 k1))))))));refine ZF f ?_;refine ZWG f (l1 _ _ _ _ _ _ _ a2) [470000128,1000000001,1000000002,1000000004,1000000005,1000000006] [476000128] ?_;cases h;exact ZL f (ZA e (ZA l.symm (ZA a1.symm (ZA c1 (ZA d1 k1)))))
   ·cases h;exact ZL (ZA f x) e
 ·cases h;exact ZL t e
theorem SD(m:Int->Int->List Int->Int->List ah->Int->ae->Option (Int×List ah×Int×ae))(t:∀(g:Int)(j:Int)(b:List Int)(k:Int)(a:List ah)(d:Int)(c:ae){r:Int×List ah×Int×ae},m g j b k a d c=some r->OkM Tryz.prog 264 [.i g,.i j,.sl 1000000000 0 b.length,.pt 1000000001 0 0,.pt 1000000002 0 0,.pt 1000000004 0 0,.pt 1000000005 0 0,.pt 1000000006 0 0] [(1000000000,.arr 1 (b.map AV.i)),(1000000001,.var (.i k)),(1000000002,.var (.sl 1000000003 0 a.length)),(1000000003,.arr 2 (a.map (aw .u))),(1000000004,.var (.i d)),(1000000005,.var (.agg [.lst .o 1 (((c).N).map AV.z),.lst .o 4 (((c).F).map (ai .o))])),(1000000006,.var (.fn 264 [.pt 1000000001 0 0,.pt 1000000002 0 0,.pt 1000000004 0 0,.pt 1000000005 0 0,.pt 1000000006 0 0]))] (.tup []) ([(470000128,.arr 2 (r.2.1.map (aw .u))),(1000000001,.var (.i r.1)),(1000000002,.var (.sl 470000128 0 r.2.1.length)),(1000000004,.var (.i r.2.2.1)),(1000000005,.var (.agg [.lst .o 1 (((r.2.2.2).N).map AV.z),.lst .o 4 (((r.2.2.2).F).map (ai .o))])),(1000000006,.var (.fn 264 [.pt 1000000001 0 0,.pt 1000000002 0 0,.pt 1000000004 0 0,.pt 1000000005 0 0,.pt 1000000006 0 0]))]))(g:Int)(j:Int)(b:List Int)(k:Int)(a:List ah)(d:Int)(c:ae){r:Int×List ah×Int×ae}(h:Dx m g j b k a d c=some r):OkM Tryz.prog 264 [.i g,.i j,.sl 1000000000 0 b.length,.pt 1000000001 0 0,.pt 1000000002 0 0,.pt 1000000004 0 0,.pt 1000000005 0 0,.pt 1000000006 0 0] [(1000000000,.arr 1 (b.map AV.i)),(1000000001,.var (.i k)),(1000000002,.var (.sl 1000000003 0 a.length)),(1000000003,.arr 2 (a.map (aw .u))),(1000000004,.var (.i d)),(1000000005,.var (.agg [.lst .o 1 (((c).N).map AV.z),.lst .o 4 (((c).F).map (ai .o))])),(1000000006,.var (.fn 264 [.pt 1000000001 0 0,.pt 1000000002 0 0,.pt 1000000004 0 0,.pt 1000000005 0 0,.pt 1000000006 0 0]))] (.tup []) ([(470000128,.arr 2 (r.2.1.map (aw .u))),(1000000001,.var (.i r.1)),(1000000002,.var (.sl 470000128 0 r.2.1.length)),(1000000004,.var (.i r.2.2.1)),(1000000005,.var (.agg [.lst .o 1 (((r.2.2.2).N).map AV.z),.lst .o 4 (((r.2.2.2).F).map (ai .o))])),(1000000006,.var (.fn 264 [.pt 1000000001 0 0,.pt 1000000002 0 0,.pt 1000000004 0 0,.pt 1000000005 0 0,.pt 1000000006 0 0]))]):=by
 refine bw (lr:=[470000128,1000000001,1000000002,1000000004,1000000005,1000000006]) ba Pp rfl rfl ?_;unfold Dx at h;simp only[ZC,Fj,bW];obtain⟨l,h⟩|⟨l,h⟩:=aj h
 ·obtain⟨c1,d1,h⟩:=af h;refine ZF l ?_;refine ZUG l (w_cg _ d1) ?_;obtain⟨q,p,h⟩:=bh h;have g1:Row.arr 2 [(.agg [.i d,.lst .u 1 (c1.map AV.i)]:AV)]=Row.arr 2 (q.map (aw .u)):=by rw[<-p];rfl
  have v:q.length=1:=by rw[<-p];rfl
  obtain⟨k1,i1,h⟩:=af h;have w:=aZ i1;obtain⟨x,s,h⟩:=bh h;have j1:a.map (aw .u)++q.map (aw .u)=x.map (aw .u):=by rw[<-s,List.map_append]
  have y:a.length+1=x.length:=by simp[<-p,<-s]<;>omega
  rw[y] at w;cases h;exact ZL (ZA l (ZA g1 (ZA v (ZA w (ZA j1 y))))) (ZA @bW.eq_1 (ZA p.symm (ZA s.symm v)))
 ·obtain⟨l1,a1,h⟩:=af h;try refine ZF l ?_
  first|refine dv (bf (aD (w_x g j b k a d c m t) a1 ?_)) (fun τ b1=>?_)|refine eJ (aD (w_x g j b k a d c m t) a1 ?_) (fun τ b1=>?_)
  ·exact ZK (ZA @S_x.eq_1 @Ls.eq_1)
  ·cases h;refine jm b1 (by decide) ?_ rfl;exact ZK (ZA @bW.eq_1 @Ls.eq_1)
theorem w_bz:∀(n:Nat)(d:Int)(g:Int)(a:List Int)(j:Int)(b:List ah)(k:Int)(c:ae){r:Int×List ah×Int×ae}(_:AR n d g a j b k c=some r),OkM Tryz.prog 264 [.i d,.i g,.sl 1000000000 0 a.length,.pt 1000000001 0 0,.pt 1000000002 0 0,.pt 1000000004 0 0,.pt 1000000005 0 0,.pt 1000000006 0 0] [(1000000000,.arr 1 (a.map AV.i)),(1000000001,.var (.i j)),(1000000002,.var (.sl 1000000003 0 b.length)),(1000000003,.arr 2 (b.map (aw .u))),(1000000004,.var (.i k)),(1000000005,.var (.agg [.lst .o 1 (((c).N).map AV.z),.lst .o 4 (((c).F).map (ai .o))])),(1000000006,.var (.fn 264 [.pt 1000000001 0 0,.pt 1000000002 0 0,.pt 1000000004 0 0,.pt 1000000005 0 0,.pt 1000000006 0 0]))] ((fun(r:Int×List ah×Int×ae)=>.tup []) r) ((fun(r:Int×List ah×Int×ae)=>[(470000128,.arr 2 (r.2.1.map (aw .u))),(1000000001,.var (.i r.1)),(1000000002,.var (.sl 470000128 0 r.2.1.length)),(1000000004,.var (.i r.2.2.1)),(1000000005,.var (.agg [.lst .o 1 (((r.2.2.2).N).map AV.z),.lst .o 4 (((r.2.2.2).F).map (ai .o))])),(1000000006,.var (.fn 264 [.pt 1000000001 0 0,.pt 1000000002 0 0,.pt 1000000004 0 0,.pt 1000000005 0 0,.pt 1000000006 0 0]))]) r)
 |0,d,g,a,j,b,k,c,_,h=>by cases h
 |n+1,d,g,a,j,b,k,c,_,h=>SD (AR n) (w_bz n) d g a j b k c h
def HQ(b:Int)(c:Int)(d:List Int)(a:ae)(v:Int×Int×List ah×Int×ae):St:=⟨[(0,.i b),(1,.i c),(2,.lst .u 1 (d.map AV.i)),(7,.pt 1000000005 0 0),(25,.lst .o 4 (((a).F).map (ai .o))),(26,.i (((a).F).length:Int)),(27,.i v.1)],[(470000064,.arr 2 (v.2.2.1.map (aw .u))),(1000000000,.var (.i v.2.1)),(1000000001,.var (.sl 470000064 0 v.2.2.1.length)),(1000000003,.var (.i v.2.2.2.1)),(1000000004,.var (.agg [.lst .o 1 (((v.2.2.2.2).N).map AV.z),.lst .o 4 (((v.2.2.2.2).F).map (ai .o))])),(1000000005,.var (.fn 264 [.pt 1000000000 0 0,.pt 1000000001 0 0,.pt 1000000003 0 0,.pt 1000000004 0 0,.pt 1000000005 0 0]))]⟩
def xP(v:Int×List ah×Int×ae):St:=⟨[],[(470000064,.arr 2 (v.2.1.map (aw .u))),(1000000000,.var (.i v.1)),(1000000001,.var (.sl 470000064 0 v.2.1.length)),(1000000003,.var (.i v.2.2.1)),(1000000004,.var (.agg [.lst .o 1 (((v.2.2.2).N).map AV.z),.lst .o 4 (((v.2.2.2).F).map (ai .o))])),(1000000005,.var (.fn 264 [.pt 1000000000 0 0,.pt 1000000001 0 0,.pt 1000000003 0 0,.pt 1000000004 0 0,.pt 1000000005 0 0]))]⟩
theorem w_aq(g:Int)(j:Int)(c:List Int)(d:ae)(a:Int×Int×List ah×Int×ae)(o:(Int×Int×List ah×Int×ae)⊕(Int×List ah×Int×ae))(h:Rs g j c d a=some o):AWP (OkS Tryz.prog) pw (qL [0,1,2,7,25,26,27] [470000064,1000000000,1000000001,1000000003,1000000004,1000000005] (HQ g j c d) (qX 0 [] [470000064,1000000000,1000000001,1000000003,1000000004,1000000005] (xP)) o) (HQ g j c d a):=by
 have e:=ZA @HQ.eq_1 @xP.eq_1;unfold Rs at h;simp only[ZC,HQ,pw];obtain⟨l,h⟩|⟨l,h⟩:=aj h
 ·obtain⟨u1,d1,h⟩:=af h;obtain⟨g1,i1,h⟩:=af h;have f:=ZA l (aO d1);refine ZF f ?_;refine ZSG f (w_cp _ _ i1) ?_;obtain⟨j1,k1,h⟩:=af h;try refine ZF f ?_
  refine aG (sh:=(fun v=>⟨[(0,.i g),(1,.i j),(2,.lst .u 1 (c.map AV.i)),(7,.pt 1000000005 0 0),(11,.i a.1),(13,.i g1),(25,.lst .o 4 (((d).F).map (ai .o))),(26,.i (((d).F).length:Int)),(27,.i a.1),(43,.b v)],[(470000064,.arr 2 (a.2.2.1.map (aw .u))),(1000000000,.var (.i a.2.1)),(1000000001,.var (.sl 470000064 0 a.2.2.1.length)),(1000000003,.var (.i a.2.2.2.1)),(1000000004,.var (.agg [.lst .o 1 (((a.2.2.2.2).N).map AV.z),.lst .o 4 (((a.2.2.2.2).F).map (ai .o))])),(1000000005,.var (.fn 264 [.pt 1000000000 0 0,.pt 1000000001 0 0,.pt 1000000003 0 0,.pt 1000000004 0 0,.pt 1000000005 0 0]))]⟩)) (s:=j1) ?_ ?_
  ·replace h:=k1;obtain⟨m,h⟩|⟨m,h⟩:=aj h
   ·obtain⟨v1,l1,h⟩:=af h;cases h;exact ZL (ZA f (ZA m (aZ l1))) trivial
   ·cases h;exact ZL (ZA f m) trivial
  ·simp only[ZC,tX];obtain⟨p,h⟩|⟨p,h⟩:=aj h
   ·obtain⟨w1,m1,h⟩:=af h;have w:(0:Int)<=(c.length:Int):=Int.natCast_nonneg _;obtain⟨q,k,h⟩:=bh h;have p1:Row.arr 1 [(.i a.1:AV)]=Row.arr 1 (q.map AV.i):=by rw[<-k];rfl
    have x:q.length=1:=by rw[<-k];rfl
    obtain⟨y1,q1,h⟩:=af h;have y:=aZ q1;obtain⟨a1,t,h⟩:=bh h;have s1:c.map AV.i++q.map AV.i=a1.map AV.i:=by rw[<-t,List.map_append]
    have b1:c.length+1=a1.length:=by simp[<-k,<-t]<;>omega
    rw[b1] at y;have c1:(0:Nat)<1:=by decide
    obtain⟨z1,t1,h⟩:=af h;have f:=ZA f (ZA p (ZA (aZ m1) (ZA w (ZA p1 (ZA x (ZA y (ZA s1 (ZA b1 c1))))))));refine ZF f ?_;refine ZWG f (w_bz N0 _ _ _ _ _ _ _ t1) [470000128,1000000001,1000000002,1000000004,1000000005,1000000006] [476000128] ?_;cases h;exact ZL f (ZA e (ZA k.symm (ZA t.symm (ZA w (ZA x c1)))))
   ·cases h;exact ZL (ZA f p) e
 ·cases h;exact ZL l e
theorem w_fd(d:Int)(g:Int)(j:List Int)(q:Int)(a:List ah)(l:Int)(b:ae){r:Int×List ah×Int×ae}(h:Og d g j q a l b=some r):OkM Tryz.prog 264 [.i d,.i g,.lst .u 1 (j.map AV.i),.pt 1000000000 0 0,.pt 1000000001 0 0,.pt 1000000003 0 0,.pt 1000000004 0 0,.pt 1000000005 0 0] [(1000000000,.var (.i q)),(1000000001,.var (.sl 1000000002 0 a.length)),(1000000002,.arr 2 (a.map (aw .u))),(1000000003,.var (.i l)),(1000000004,.var (.agg [.lst .o 1 (((b).N).map AV.z),.lst .o 4 (((b).F).map (ai .o))])),(1000000005,.var (.fn 264 [.pt 1000000000 0 0,.pt 1000000001 0 0,.pt 1000000003 0 0,.pt 1000000004 0 0,.pt 1000000005 0 0]))] (.tup []) ([(470000064,.arr 2 (r.2.1.map (aw .u))),(1000000000,.var (.i r.1)),(1000000001,.var (.sl 470000064 0 r.2.1.length)),(1000000003,.var (.i r.2.2.1)),(1000000004,.var (.agg [.lst .o 1 (((r.2.2.2).N).map AV.z),.lst .o 4 (((r.2.2.2).F).map (ai .o))])),(1000000005,.var (.fn 264 [.pt 1000000000 0 0,.pt 1000000001 0 0,.pt 1000000003 0 0,.pt 1000000004 0 0,.pt 1000000005 0 0]))]):=by
 refine bw (lr:=[470000064,1000000000,1000000001,1000000003,1000000004,1000000005]) ba RY rfl rfl ?_;unfold Og at h;simp only[ZC,GA,bW];obtain⟨c,h⟩|⟨c,h⟩:=aj h
 ·obtain⟨a1,b1,h⟩:=af h;refine ZF c ?_;refine ZUG c (w_cg _ b1) ?_;obtain⟨m,k,h⟩:=bh h;have c1:Row.arr 2 [(.agg [.i l,.lst .u 1 (a1.map AV.i)]:AV)]=Row.arr 2 (m.map (aw .u)):=by rw[<-k];rfl
  have s:m.length=1:=by rw[<-k];rfl
  obtain⟨i1,d1,h⟩:=af h;have t:=aZ d1;obtain⟨v,p,h⟩:=bh h;have g1:a.map (aw .u)++m.map (aw .u)=v.map (aw .u):=by rw[<-p,List.map_append]
  have w:a.length+1=v.length:=by simp[<-k,<-p]<;>omega
  rw[w] at t;cases h;exact ZL (ZA c (ZA c1 (ZA s (ZA t (ZA g1 w))))) (ZA @bW.eq_1 (ZA k.symm (ZA p.symm s)))
 ·obtain⟨j1,x,h⟩:=af h;try refine ZF c ?_
  first|refine dv (bf (aD (w_aq d g j b) x ?_)) (fun τ y=>?_)|refine eJ (aD (w_aq d g j b) x ?_) (fun τ y=>?_)
  ·exact ZK (ZA @HQ.eq_1 @xP.eq_1)
  ·cases h;refine jm y (by decide) ?_ rfl;exact ZK (ZA @bW.eq_1 @xP.eq_1)
def DU(a:ae)(b:ah)(v:Int×Int):St:=⟨[(2,.pt 2 0 0),(5,.i v.1),(9,.lst .o 1 (b.F.map AV.i)),(10,.i (b.F.length:Int)),(11,.i v.2)],[(2,.var (.agg [.lst .o 1 (a.N.map AV.z),.lst .o 4 (a.F.map (ai .o))]))]⟩
theorem w_cd(a:ae)(b:ah)(d:Int×Int)(o:(Int×Int)⊕Int)(h:PA a b d=some o):AWP (OkS Tryz.prog) wl (qL [2,5,9,10,11] [2] (DU a b) (qX 0 [5] [] (nl)) o) (DU a b d):=by
 have e:=ZA @DU.eq_1 @nl.eq_1;unfold PA at h;simp only[ZC,DU,wl];obtain⟨c,h⟩|⟨c,h⟩:=aj h
 ·obtain⟨j,g,h⟩:=af h;obtain⟨k,i,h⟩:=af h;cases h;exact ZL (ZA c (ZA (aO g) (aO i))) e
 ·cases h;exact ZL c e
theorem QK(a:ae)(b:ah){r:Int}(h:wO a b=some r):Ok Tryz.prog 223 [.agg [.lst .o 1 (a.N.map AV.z),.lst .o 4 (a.F.map (ai .o))],.agg [.i b.N,.lst .o 1 (b.F.map AV.i)]] (.i r):=by
 refine az ba m223 rfl ?_;unfold wO at h;simp only[ZC,A223,aN,aJ];obtain⟨d,c,h⟩:=af h;try refine ZF trivial ?_
 refine aG (bf (aD (w_cd a b) c ?_)) ?_
 ·exact ZK (ZA @DU.eq_1 @nl.eq_1)
 ·simp only[ZC,nl,Eu];cases h;exact ZL trivial @aN.eq_1
def S_m(s1Z0:List Int)(s2Z0:List Int)(v:Int):St:=⟨[(0,.lst .o 1 (s1Z0.map AV.i)),(1,.lst .o 1 (s2Z0.map AV.i)),(9,.lst .o 1 (s1Z0.map AV.i)),(10,.i (s1Z0.length:Int)),(11,.i v)],[]⟩
def Gf(s1Z0:List Int)(s2Z0:List Int)(v:Unit):St:=⟨[(0,.lst .o 1 (s1Z0.map AV.i)),(1,.lst .o 1 (s2Z0.map AV.i))],[]⟩
theorem w_m(s1Z0:List Int)(s2Z0:List Int)(d:Int)(o:Int⊕(Unit⊕Int))(h:M_m s1Z0 s2Z0 d=some o):AWP (OkS Tryz.prog) wB (qL [0,1,9,10,11] [] (S_m s1Z0 s2Z0) (qS (qX 0 [0,1] [] (Gf s1Z0 s2Z0)) (qR aN (fun r=>.i r))) o) (S_m s1Z0 s2Z0 d):=by
 unfold M_m at h;simp only[ZC,S_m,wB];obtain⟨a,h⟩|⟨a,h⟩:=aj h
 ·obtain⟨l,g,h⟩:=af h;obtain⟨b,h⟩|⟨b,h⟩:=aj h
  ·cases h;exact ZL (ZA a (ZA (aO g) b)) @aN.eq_1
  ·obtain⟨m,j,h⟩:=af h;obtain⟨p,k,h⟩:=af h;have f:=ZA a (ZA (aO g) (ZA b (aO j)));refine ZF f ?_;refine ZSG f (w_i _ _ k) ?_;obtain⟨c,h⟩|⟨c,h⟩:=aj h
   ·cases h;exact ZL (ZA f c) @aN.eq_1
   ·cases h;exact ZL (ZA f c) (ZA @S_m.eq_1 @Gf.eq_1)
 ·cases h;exact ZL a (ZA @S_m.eq_1 @Gf.eq_1)
theorem w_eh(s1Z0:List Int)(s2Z0:List Int){r:Int}(h:HU s1Z0 s2Z0=some r):Ok Tryz.prog 225 [.lst .o 1 (s1Z0.map AV.i),.lst .o 1 (s2Z0.map AV.i)] (.i r):=by
 refine az ba m225 rfl ?_;unfold HU at h;simp only[ZC,A225,aN,aJ];obtain⟨b,c,h⟩:=af h;try refine ZF trivial ?_
 refine bj (o:=b) (bz de (aD (w_m s1Z0 s2Z0) c ?_)) (fun g hv=>?_) (fun j hv e τ hne hq=>?_)
 ·exact ZK (ZA @S_m.eq_1 @Gf.eq_1)
 ·subst hv;simp only[] at h;simp only[ZC,Gf,Ki];obtain⟨a,h⟩|⟨a,h⟩:=aj h
  ·cases h;exact ZL a @aN.eq_1
  ·cases h;exact ZL a @aN.eq_1
 ·subst hv;simp only[] at h;obtain⟨rfl,d⟩:=hq;cases h;exact d
theorem Pn(c:ae)(d:ah)(g:ah){r:Int}(h:pe c d g=some r):Ok Tryz.prog 190 [.agg [.lst .o 1 (c.N.map AV.z),.lst .o 4 (c.F.map (ai .o))],.agg [.i d.N,.lst .o 1 (d.F.map AV.i)],.agg [.i g.N,.lst .o 1 (g.F.map AV.i)]] (.i r):=by
 refine az ba m190 rfl ?_;unfold pe at h;simp only[ZC,A190,cQ,aJ];obtain⟨b1,k,h⟩:=af h;refine ZF trivial ?_;refine ZSG trivial (QK _ _ k) ?_;obtain⟨c1,l,h⟩:=af h;refine ZF trivial ?_;refine ZSG trivial (QK _ _ l) ?_;obtain⟨m,p,h⟩:=af h;refine ZF trivial ?_;refine ZSG trivial (w_i _ _ p) ?_;obtain⟨q,s,h⟩:=af h;refine ZF trivial ?_;refine ZSG trivial (w_i _ _ s) ?_;obtain⟨t,u,h⟩:=af h;refine ZF trivial ?_;refine ZSG trivial (w_eh _ _ u) ?_;obtain⟨v,w,h⟩:=af h;refine ZF trivial ?_;refine ZSG trivial (w_i _ _ w) ?_;obtain⟨a,b,h⟩:=bh h;have x:Row.arr 1 [(.i m:AV),(.i q:AV),(.i t:AV),(.i v:AV)]=Row.arr 1 (a.map AV.i):=by rw[<-b];rfl
 have j:a.length=4:=by rw[<-b];rfl
 have y:sub (a.map AV.i) 0 4=a.map AV.i:=kE _ (by simp[<-b]);obtain⟨d1,a1,h⟩:=af h;have f:=ZA x (ZA j y);refine ZF f ?_;refine ZSG f (w_r _ a1) ?_;cases h;exact ZL f (ZA @cQ.eq_1 (ZA b.symm j))
theorem w_ch(a:ah)(b:ah)(p2Z0:ae){r:Int}(h:wG a b p2Z0=some r):Ok Tryz.prog 266 [.agg [.i a.N,.lst .o 1 (a.F.map AV.i)],.agg [.i b.N,.lst .o 1 (b.F.map AV.i)],.bp .o (.agg [.lst .o 1 (p2Z0.N.map AV.z),.lst .o 4 (p2Z0.F.map (ai .o))]) 0] (.i r):=by
 refine az ba m266 rfl ?_;unfold wG at h;simp only[ZC,A266,Ri,aJ];obtain⟨d,c,h⟩:=af h;refine ZF trivial ?_;refine ZSG trivial (Pn _ _ _ c) ?_;cases h;exact ZL trivial @Ri.eq_1
theorem w_df(b:ae)(g:Int)(j:Int){r:List ah}(h:EN b g j=some r):Ok Tryz.prog 245 [.agg [.lst .o 1 (b.N.map AV.z),.lst .o 4 (b.F.map (ai .o))],.i g,.i j] (.lst .u 2 (r.map (aw .u))):=by
 refine az ba m245 rfl ?_;unfold EN at h;simp only[ZC,A245,cQ,aJ];obtain⟨a,m,h⟩:=af h;try refine ZF trivial ?_
 refine aG (sh:=(fun v=>⟨[(3,.pt 3 0 0),(7,.pt 7 0 0)],[(3,.var (.agg [.lst .o 1 (((v.1).N).map AV.z),.lst .o 4 (((v.1).F).map (ai .o))])),(7,.var (.sl 500000448 0 v.2.length)),(500000448,.arr 2 (v.2.map (aw .u)))]⟩)) (s:=a) ?_ ?_
 ·replace h:=m;obtain⟨c,h⟩|⟨c,h⟩:=aj h
  ·obtain⟨w,p,h⟩:=af h;obtain⟨x,q,h⟩:=af h;have f:=ZA c (aZ p);refine ZF f ?_;refine ZWG f (w_fd _ _ _ _ _ _ _ q) [470000064,1000000000,1000000001,1000000003,1000000004,1000000005] [471900064] ?_;cases h;exact ZL f trivial
  ·cases h;exact ZL c trivial
 ·simp only[ZC,Fr];obtain⟨d,k,h⟩:=af h;have l:d.length=a.2.length:=jS k;refine ZF trivial ?_;refine vA (by simp only[VS1,VS2,VS3,VS4,VS5,VS6,VT1,VT2,bJ,bK,decide_true,decide_false,List.nodup_nil,List.nodup_cons,fg,fd,ff,ne_eq,not_false_eq_true,Int.reduceEq,Int.reduceNe,true_and,false_and,Nat.reduceSub,Nat.reduceMul,↓reduceIte,reduceCtorEq,Nat.reduceEqDiff,Nat.reduceAdd,Nat.reduceLeDiff,Int.reduceLE];exact(Jf Ly (aw .u) (nM .u) (xs:=a.2) (cmp:=(fun x0 x1=>wG x0 x1 a.1)) (C:=[.bp .o (.agg [.lst .o 1 (a.1.N.map AV.z),.lst .o 4 (a.1.F.map (ai .o))]) 0]) (by simp[List.length_nil]) (by simp only[VS1,VS2,VS3,VS4,VS5,VS6,VT1,VT2,bJ,bK,decide_true,decide_false,List.nodup_nil,List.nodup_cons,fg,fd,ff,ne_eq,not_false_eq_true,Int.reduceEq,Int.reduceNe,true_and,false_and,Nat.reduceSub,Nat.reduceMul,↓reduceIte,reduceCtorEq,Nat.reduceEqDiff,Nat.reduceAdd,Nat.reduceLeDiff,Int.reduceLE,List.map_cons,List.map_nil]) rfl (by simp[Wf,VS1,VS2,VS3,VS4,VS5,VS6,VT1,VT2]) (by simp[VS1,VS2,VS3,VS4,VS5,VS6,VT1,VT2]) ((Rk m266)) (fun _ _ _ hq=>by simp only[fW,VS1,VS2,VS3,VS4,VS5,VS6,VT1,VT2,bJ,bK,decide_true,decide_false,List.nodup_nil,List.nodup_cons,fg,fd,ff,ne_eq,not_false_eq_true,Int.reduceEq,Int.reduceNe,true_and,false_and,Nat.reduceSub,Nat.reduceMul,↓reduceIte,reduceCtorEq,Nat.reduceEqDiff,Nat.reduceAdd,Nat.reduceLeDiff,Int.reduceLE];exact w_ch _ _ _ hq) k)) (by simp[VS1,VS2,VS3,VS4,VS5,VS6,VT1,VT2]) (by first|exact OT [1000000000,1000000001] rfl (by decide+kernel)|simp[VS1,VS2,VS3,VS4,VS5,VS6,VT1,VT2]) ?_;refine ZG ?_;have t:sub (d.map (aw .u)) 0 a.2.length=d.map (aw .u):=kE _ (by simp[l]);cases h;exact ZL t (ZA @cQ.eq_1 l)
theorem w_cu(c:ae)(g:Int)(j:Int){r:List ah×Bool}(h:BM c g j=some r):Ok Tryz.prog 221 [.agg [.lst .o 1 (c.N.map AV.z),.lst .o 4 (c.F.map (ai .o))],.i g,.i j] (.tup [.lst .u 2 (r.1.map (aw .u)),.b r.2]):=by
 refine az ba m221 rfl ?_;unfold BM at h;simp only[ZC,A221,hM,aJ];obtain⟨q,t,h⟩:=af h;try refine ZF trivial ?_
 refine aG (sh:=(fun v=>⟨[(1,.i g),(2,.i j),(3,.pt 3 0 0),(19,.b v)],[(3,.var (.agg [.lst .o 1 (c.N.map AV.z),.lst .o 4 (c.F.map (ai .o))]))]⟩)) (s:=q) ?_ ?_
 ·replace h:=t;obtain⟨k,d,h⟩:=bh h;have w:Row.arr 1 [(.i g:AV),(.i j:AV)]=Row.arr 1 (k.map AV.i):=by rw[<-d];rfl
  have l:k.length=2:=by rw[<-d];rfl
  have x:sub (k.map AV.i) 0 2=k.map AV.i:=kE _ (by simp[<-d]);obtain⟨b1,y,h⟩:=af h;have f:=ZA w (ZA l x);refine ZF f ?_;refine ZSG f (w_dh _ _ y) ?_;obtain⟨m,h⟩|⟨m,h⟩:=aj h
  ·cases h;exact ZL (ZA f m) (ZA d.symm l)
  ·cases h;exact ZL (ZA f m) (ZA d.symm l)
 ·simp only[ZC,Fk];obtain⟨a,h⟩|⟨a,h⟩:=aj h
  ·cases h;exact ZL a @hM.eq_1
  ·obtain⟨c1,a1,h⟩:=af h;refine ZF a ?_;refine ZUG a (w_df _ _ _ a1) ?_;obtain⟨p,h⟩|⟨p,h⟩:=aj h
   ·cases h;exact ZL (ZA a p) @hM.eq_1
   ·cases h;exact ZL (ZA a p) @hM.eq_1
def Ik(a:List au)(b:Int)(v:Int):St:=⟨[(0,.lst .o 2 (a.map (ay .o))),(1,.i b),(6,.i v)],[]⟩
theorem w_bx(c:List au)(d:Int)(j:Int)(o:Int⊕(Unit⊕(Int×Bool)))(h:CV c d j=some o):AWP (OkS Tryz.prog) vN (qL [0,1,6] [] (Ik c d) (qS (qX 0 [] [] (cq)) (qR AJ (fun r=>.tup [.i r.1,.b r.2]))) o) (Ik c d j):=by
 have e:=ZA @Ik.eq_1 @cq.eq_1;unfold CV at h;simp only[ZC,Ik,vN];obtain⟨a,h⟩|⟨a,h⟩:=aj h
 ·obtain⟨l,k,h⟩:=af h;obtain⟨g,h⟩|⟨g,h⟩:=aj h
  ·cases h;exact ZL (ZA a (ZA (aO k) g)) @AJ.eq_1
  ·cases h;exact ZL (ZA a (ZA (aO k) g)) e
 ·cases h;exact ZL a e
theorem w_ei(c:List au)(d:Int){r:Int×Bool}(h:EH c d=some r):Ok Tryz.prog 246 [.lst .o 2 (c.map (ay .o)),.i d] (.tup [.i r.1,.b r.2]):=by
 refine az ba m246 rfl ?_;unfold EH at h;simp only[ZC,A246,AJ,aJ];obtain⟨j,k,h⟩:=af h;try refine ZF trivial ?_
 refine aG (sh:=(fun v=>⟨[(0,.lst .o 2 (c.map (ay .o))),(1,.i d),(14,.b v)],[]⟩)) (s:=j) ?_ ?_
 ·replace h:=k;obtain⟨u,l,h⟩:=af h;refine ZF trivial ?_;refine ZSG trivial (w_cn _ l) ?_;obtain⟨a,h⟩|⟨a,h⟩:=aj h
  ·cases h;exact ZL a trivial
  ·obtain⟨w,m,h⟩:=af h;refine ZF a ?_;refine ZSG a (w_b _ _ _ m) ?_;cases h;exact ZL a trivial
 ·simp only[ZC,Jz];obtain⟨g,h⟩|⟨g,h⟩:=aj h
  ·cases h;exact ZL g @AJ.eq_1
  ·obtain⟨p,q,h⟩:=af h;try refine ZF g ?_
   refine bj (o:=p) (bz de (aD (w_bx c d) q ?_)) (fun x hv=>?_) (fun y hv e τ hne hq=>?_)
   ·exact ZK (ZA @Ik.eq_1 @cq.eq_1)
   ·subst hv;simp only[] at h;simp only[ZC,cq,Di];cases h;exact ZL g @AJ.eq_1
   ·subst hv;simp only[] at h;obtain⟨rfl,t⟩:=hq;cases h;exact t
theorem w_cy(d:List au)(k:Int)(g:Int){r:Int×Bool}(h:Ce d k g=some r):Ok Tryz.prog 222 [.lst .o 2 (d.map (ay .o)),.i k,.i g] (.tup [.i r.1,.b r.2]):=by
 refine az ba m222 rfl ?_;unfold Ce at h;simp only[ZC,A222,hM,aJ];obtain⟨p,q,h⟩:=af h;refine ZF trivial ?_;refine ZUG trivial (w_ei _ _ q) ?_;obtain⟨t,u,h⟩:=af h;try refine ZF trivial ?_
 refine aG (sh:=(fun v=>⟨[(0,.lst .o 2 (d.map (ay .o))),(2,.i g),(8,.i p.1),(23,.b v)],[]⟩)) (s:=t) ?_ ?_
 ·replace h:=u;obtain⟨a,h⟩|⟨a,h⟩:=aj h
  ·cases h;exact ZL a trivial
  ·obtain⟨x,w,h⟩:=af h;refine ZF a ?_;refine ZSG a (w_b _ _ _ w) ?_;cases h;exact ZL a trivial
 ·simp only[ZC,CS];obtain⟨c,h⟩|⟨c,h⟩:=aj h
  ·cases h;exact ZL c @hM.eq_1
  ·obtain⟨y,l,h⟩:=af h;obtain⟨z,m,h⟩:=af h;obtain⟨j,h⟩|⟨j,h⟩:=aj h
   ·cases h;exact ZL (ZA c (ZA (aO l) (ZA (aZ m) j))) @hM.eq_1
   ·cases h;exact ZL (ZA c (ZA (aO l) (ZA (aZ m) j))) @hM.eq_1
def S_s{H:World->Prop}(c:ae)(d:List au)(a:aI)(b:List (bA H)×Bool)(v:Int×List (ar H)):St:=⟨[(1,.lst .o 2 (d.map (ay .o))),(3,.pt 3 0 0),(5,.pt 5 0 0),(10,.sl 10 0 v.2.length),(37,.sl 8 0 b.1.length),(38,.i (b.1.length:Int)),(39,.i v.1)],[(3,.var (.agg [.lst .o 1 (c.N.map AV.z),.lst .o 4 (c.F.map (ai .o))])),(5,.var (.agg [.i a.N,.i a.L,.i a.F,.i a.P])),(8,.arr 2 (b.1.map (aY .u))),(10,.arr 3 (v.2.map (aM .m)))]⟩
def LB{H:World->Prop}(v:List (ar H)):St:=⟨[(10,.sl 10 0 v.length)],[(10,.arr 3 (v.map (aM .m)))]⟩
theorem w_s{H:World->Prop}(c:ae)(d:List au)(g:aI)(j:List (bA H)×Bool)(a:Int×List (ar H))(o:(Int×List (ar H))⊕(List (ar H)))(h:bZ c d g j a=some o):AWP (OkT H Tryz.prog) xH (qL [1,3,5,10,37,38,39] [3,5,8,10] (S_s c d g j) (qX 0 [10] [10] (LB)) o) (S_s c d g j a):=by
 have e:=ZA @S_s.eq_1 @LB.eq_1;unfold bZ at h;simp only[ZC,S_s,xH];obtain⟨k,h⟩|⟨k,h⟩:=aj h
 ·obtain⟨j1,y,h⟩:=af h;obtain⟨s,z,h⟩:=af h;obtain⟨k1,a1,h⟩:=af h;have f:=ZA k (ZA (aZ y) z);refine ZF f ?_;refine ZSG f (QK _ _ a1) ?_;obtain⟨b1,c1,h⟩:=af h;refine ZF f ?_;refine ZUG f (w_cy _ _ _ c1) ?_;obtain⟨l,h⟩|⟨l,h⟩:=aj h
  ·obtain⟨p,b,h⟩:=bh h;have d1:Row.arr 3 [(.agg [.i s.N,.sc (s.F.v),.i b1.1]:AV)]=Row.arr 3 (p.map (aM .m)):=by rw[<-b];rfl
   have t:p.length=1:=by rw[<-b];rfl
   obtain⟨l1,g1,h⟩:=af h;have u:=aZ g1;obtain⟨w,q,h⟩:=bh h;have i1:a.2.map (aM .m)++p.map (aM .m)=w.map (aM .m):=by rw[<-q,List.map_append]
   have x:a.2.length+1=w.length:=by simp[<-b,<-q]<;>omega
   rw[x] at u;cases h;exact ZL (ZA f (ZA l (ZA d1 (ZA t (ZA u (ZA i1 x)))))) (ZA e (ZA b.symm (ZA q.symm t)))
  ·cases h;exact ZL (ZA f l) e
 ·cases h;exact ZL k e
theorem w_ej(c:ae)(g:List au)(a:aI){r:List aA×Bool}(h:HW c g a=some r):Ok Tryz.prog 186 [.agg [.lst .o 1 (c.N.map AV.z),.lst .o 4 (c.F.map (ai .o))],.lst .o 2 (g.map (ay .o)),.agg [.i a.N,.i a.L,.i a.F,.i a.P]] (.tup [.lst .u 3 (r.1.map (aR .u)),.b r.2]):=by
 refine Hb (n:=2) ba m186 rfl rfl ?_;unfold HW at h;show AWP _ OG _ _;simp only[ZC,OG];obtain⟨a1,b1,h⟩:=af h;try refine ZF trivial ?_
 refine aG (sh:=(fun v=>⟨[(1,.lst .o 2 (g.map (ay .o))),(3,.pt 3 0 0),(5,.pt 5 0 0),(24,.b v)],[(3,.var (.agg [.lst .o 1 (c.N.map AV.z),.lst .o 4 (c.F.map (ai .o))])),(5,.var (.agg [.i a.N,.i a.L,.i a.F,.i a.P]))]⟩)) (s:=a1) ?_ ?_
 ·replace h:=b1;obtain⟨m1,c1,h⟩:=af h;refine ZF trivial ?_;refine ZSG trivial (w_cn _ c1) ?_;obtain⟨p,h⟩|⟨p,h⟩:=aj h
  ·cases h;exact ZL p trivial
  ·obtain⟨j,k,h⟩:=bh h;have d1:Row.arr 4 [(.agg [.i a.N,.i a.L,.i a.F,.i a.P]:AV)]=Row.arr 4 (j.map (aK .u)):=by rw[<-k];rfl
   have q:j.length=1:=by rw[<-k];rfl
   have g1:sub (j.map (aK .u)) 0 1=j.map (aK .u):=kE _ (by simp[<-k]);obtain⟨p1,i1,h⟩:=af h;have f:=ZA p (ZA d1 (ZA q g1));refine ZF f ?_;refine ZSG f (w_eg _ _ i1) ?_;cases h;exact ZL f (ZA k.symm q)
 ·simp only[ZC,vt];obtain⟨d,h⟩|⟨d,h⟩:=aj h
  ·cases h;exact ZL d @hM.eq_1
  ·obtain⟨t,w,h⟩:=af h;refine ZF d ?_;refine ZUG d (w_cu _ _ _ w) ?_;refine ZF d ?_;refine LE 8 (t.1.map fun x=>(x.N,x.F,[])) rfl (by simp[elU,VT1]) fun H Z hZ=>?_;obtain⟨Zr,j1,k1,y⟩:=Ae hZ;obtain⟨l,b⟩:=t;simp only at y h w⊢;subst y;rw[j1,k1];simp only[ZC,Pk,List.length_map];obtain⟨m,h⟩|⟨m,h⟩:=aj h
   ·cases h;try refine ZF m ?_
    simp[qL,qJ,qJ0,qS,qX,qR,qM,Shp,sub,dG,bJ,bK,VS1,VS2,VS3,VS4,VS5,VS6,VT1,VT2,hM];exact⟨_,yl (LV _ _) (.sc _),by simp⟩
   ·obtain⟨q1,l1,h⟩:=af h;obtain⟨lT,hlT,hoT⟩:=SE l1;try refine ZF m ?_
    refine aG (bf (aD (w_s c g a (Zr,b)) hlT ?_)) ?_
    ·exact ZK (ZA @S_s.eq_1 @LB.eq_1)
    ·simp only[ZC,LB,Ea];cases h;try refine ZF m ?_
     simp[qL,qJ,qJ0,qS,qX,qR,qM,Shp,sub,dG,bJ,bK,VS1,VS2,VS3,VS4,VS5,VS6,VT1,VT2,hM];rw[<-hoT];exact Ct rfl (PV _ _ _ _ _ hlT) true
def FP(a:ae)(b:Int×List (List Int))(v:Int×List Int):St:=⟨[(1,.pt 1 0 0),(3,.sl 3 0 b.2.length),(4,.i b.1),(5,.sl 5 0 v.2.length),(17,.lst .o 4 (a.F.map (ai .o))),(18,.i (a.F.length:Int)),(19,.i v.1)],[(1,.var (.agg [.lst .o 1 (a.N.map AV.z),.lst .o 4 (a.F.map (ai .o))])),(3,.arr 1 (b.2.map (cd .u))),(5,.arr 1 (v.2.map AV.i))]⟩
def yV(b:ae)(a:Int×List (List Int))(v:List Int):St:=⟨[(1,.pt 1 0 0),(3,.sl 3 0 a.2.length),(4,.i a.1),(5,.sl 5 0 v.length)],[(1,.var (.agg [.lst .o 1 (b.N.map AV.z),.lst .o 4 (b.F.map (ai .o))])),(3,.arr 1 (a.2.map (cd .u))),(5,.arr 1 (v.map AV.i))]⟩
theorem w_af(b:ae)(c:Int×List (List Int))(a:Int×List Int)(o:(Int×List Int)⊕(List Int))(h:Aa b c a=some o):AWP (OkS Tryz.prog) Fb (qL [1,3,4,5,17,18,19] [1,3,5] (FP b c) (qX 2 [1,3,4,5] [1,3,5] (yV b c)) o) (FP b c a):=by
 have e:=ZA @FP.eq_1 @yV.eq_1;unfold Aa at h;simp only[ZC,FP,Fb];obtain⟨d,h⟩|⟨d,h⟩:=aj h
 ·obtain⟨x,m,h⟩:=af h;obtain⟨j,h⟩|⟨j,h⟩:=aj h
  ·obtain⟨k,g,h⟩:=bh h;have u:Row.arr 1 [(.i a.1:AV)]=Row.arr 1 (k.map AV.i):=by rw[<-g];rfl
   have p:k.length=1:=by rw[<-g];rfl
   obtain⟨y,v,h⟩:=af h;have q:=aZ v;obtain⟨s,l,h⟩:=bh h;have w:a.2.map AV.i++k.map AV.i=s.map AV.i:=by rw[<-l,List.map_append]
   have t:a.2.length+1=s.length:=by simp[<-g,<-l]<;>omega
   rw[t] at q;cases h;exact ZL (ZA d (ZA (aO m) (ZA j (ZA u (ZA p (ZA q (ZA w t))))))) (ZA e (ZA g.symm (ZA l.symm p)))
  ·cases h;exact ZL (ZA d (ZA (aO m) j)) e
 ·cases h;exact ZL d e
def IR(a:ae)(v:Int×List (List Int)):St:=⟨[(1,.pt 1 0 0),(3,.sl 3 0 v.2.length),(4,.i v.1)],[(1,.var (.agg [.lst .o 1 (a.N.map AV.z),.lst .o 4 (a.F.map (ai .o))])),(3,.arr 1 (v.2.map (cd .u)))]⟩
def yt(a:ae)(v:List (List Int)):St:=⟨[(1,.pt 1 0 0),(3,.sl 3 0 v.length)],[(1,.var (.agg [.lst .o 1 (a.N.map AV.z),.lst .o 4 (a.F.map (ai .o))])),(3,.arr 1 (v.map (cd .u)))]⟩
theorem w_ag(a:ae)(b:Int×List (List Int))(o:(Int×List (List Int))⊕(List (List Int)))(h:zL a b=some o):AWP (OkS Tryz.prog) IB (qL [1,3,4] [1,3] (IR a) (qX 0 [1,3] [1,3] (yt a)) o) (IR a b):=by
 have e:=ZA @IR.eq_1 @yt.eq_1;unfold zL at h;simp only[ZC,IR,IB];obtain⟨c,h⟩|⟨c,h⟩:=aj h
 ·obtain⟨s,t,h⟩:=af h;try refine ZF c ?_
  refine aG (bf (aD (w_af a b) t ?_)) ?_
  ·exact ZK (ZA @FP.eq_1 @yV.eq_1)
  ·simp only[ZC,yV,OE];obtain⟨g,h⟩|⟨g,h⟩:=aj h
   ·obtain⟨j,d,h⟩:=bh h;have v:Row.arr 1 [(.lst .u 1 (s.map AV.i):AV)]=Row.arr 1 (j.map (cd .u)):=by rw[<-d];rfl
    have l:j.length=1:=by rw[<-d];rfl
    obtain⟨y,w,h⟩:=af h;have m:=aZ w;obtain⟨p,k,h⟩:=bh h;have x:b.2.map (cd .u)++j.map (cd .u)=p.map (cd .u):=by rw[<-k,List.map_append]
    have q:b.2.length+1=p.length:=by simp[<-d,<-k]<;>omega
    rw[q] at m;cases h;exact ZL (ZA c (ZA g (ZA v (ZA l (ZA m (ZA x q)))))) (ZA e (ZA d.symm (ZA k.symm l)))
   ·cases h;exact ZL (ZA c g) e
 ·cases h;exact ZL c e
def DW(a:ae)(v:Int×List (List Int)):St:=⟨[(3,.sl 3 0 v.2.length),(41,.lst .o 4 (a.F.map (ai .o))),(42,.i (a.F.length:Int)),(43,.i v.1)],[(3,.arr 1 (v.2.map (cd .u)))]⟩
def yN(v:List (List Int)):St:=⟨[(3,.sl 3 0 v.length)],[(3,.arr 1 (v.map (cd .u)))]⟩
theorem w_ah(j:ae)(a:Int×List (List Int))(o:(Int×List (List Int))⊕(List (List Int)))(h:Cl j a=some o):AWP (OkS Tryz.prog) ER (qL [3,41,42,43] [3] (DW j) (qX 4 [3] [3] (yN)) o) (DW j a):=by
 have e:=ZA @DW.eq_1 @yN.eq_1;unfold Cl at h;simp only[ZC,DW,ER];obtain⟨d,h⟩|⟨d,h⟩:=aj h
 ·obtain⟨c1,p,h⟩:=af h;obtain⟨k,h⟩|⟨k,h⟩:=aj h
  ·obtain⟨b,c,h⟩:=bh h;have x:Row.arr 1 [(.i a.1:AV)]=Row.arr 1 (b.map AV.i):=by rw[<-c];rfl
   have q:b.length=1:=by rw[<-c];rfl
   have y:sub (b.map AV.i) 0 1=b.map AV.i:=kE _ (by simp[<-c]);obtain⟨l,g,h⟩:=bh h;have z:Row.arr 1 [(.lst .u 1 (b.map AV.i):AV)]=Row.arr 1 (l.map (cd .u)):=by rw[<-g];rfl
   have s:l.length=1:=by rw[<-g];rfl
   obtain⟨d1,a1,h⟩:=af h;have t:=aZ a1;obtain⟨v,m,h⟩:=bh h;have b1:a.2.map (cd .u)++l.map (cd .u)=v.map (cd .u):=by rw[<-m,List.map_append]
   have w:a.2.length+1=v.length:=by simp[<-c,<-g,<-m]<;>omega
   rw[w] at t;cases h;exact ZL (ZA d (ZA (aO p) (ZA k (ZA x (ZA q (ZA y (ZA z (ZA s (ZA t (ZA b1 w)))))))))) (ZA e (ZA c.symm (ZA g.symm (ZA m.symm (ZA q s)))))
  ·cases h;exact ZL (ZA d (ZA (aO p) k)) e
 ·cases h;exact ZL d e
theorem w_ek(a:ae){r:List (List Int)}(h:IJ a=some r):Ok Tryz.prog 78 [.agg [.lst .o 1 (a.N.map AV.z),.lst .o 4 (a.F.map (ai .o))]] (.lst .u 1 (r.map (cd .u))):=by
 refine az ba m78 rfl ?_;unfold IJ at h;simp only[ZC,A78,bq,aJ];obtain⟨d,b,h⟩:=af h;try refine ZF trivial ?_
 refine aG (bf (aD (w_ag a) b ?_)) ?_
 ·exact ZK (ZA @IR.eq_1 @yt.eq_1)
 ·simp only[ZC,yt,OQ];obtain⟨g,c,h⟩:=af h;try refine ZF trivial ?_
  refine aG (bf (aD (w_ah a) c ?_)) ?_
  ·exact ZK (ZA @DW.eq_1 @yN.eq_1)
  ·simp only[ZC,yN,Pb];cases h;exact ZL trivial @bq.eq_1
def He(a:List Int)(b:Int)(v:Int):St:=⟨[(0,.lst .o 1 (a.map AV.i)),(1,.i b),(7,.i (a.length:Int)),(8,.i v)],[]⟩
theorem w_bj(b:List Int)(c:Int)(g:Int)(o:Int⊕(Unit⊕Int))(h:Ch b c g=some o):AWP (OkS Tryz.prog) vT (qL [0,1,7,8] [] (He b c) (qS (qX 0 [] [] (cq)) (qR aN (fun r=>.i r))) o) (He b c g):=by
 have e:=ZA @He.eq_1 @cq.eq_1;unfold Ch at h;simp only[ZC,He,vT];obtain⟨a,h⟩|⟨a,h⟩:=aj h
 ·obtain⟨k,j,h⟩:=af h;obtain⟨d,h⟩|⟨d,h⟩:=aj h
  ·cases h;exact ZL (ZA a (ZA (aO j) d)) @aN.eq_1
  ·cases h;exact ZL (ZA a (ZA (aO j) d)) e
 ·cases h;exact ZL a e
theorem w_fn(a:List Int)(b:Int){r:Int}(h:KI a b=some r):Ok Tryz.prog 139 [.lst .o 1 (a.map AV.i),.i b] (.i r):=by
 refine az ba m139 rfl ?_;unfold KI at h;simp only[ZC,A139,aN,aJ];obtain⟨c,d,h⟩:=af h;try refine ZF trivial ?_
 refine bj (o:=c) (bz de (aD (w_bj a b) d ?_)) (fun j hv=>?_) (fun k hv e τ hne hq=>?_)
 ·exact ZK (ZA @He.eq_1 @cq.eq_1)
 ·subst hv;simp only[] at h;simp only[ZC,cq,Ey];cases h;exact ZL trivial @aN.eq_1
 ·subst hv;simp only[] at h;obtain⟨rfl,g⟩:=hq;cases h;exact g
theorem w_cq(a:List Int)(c:Int){r:Bool}(h:zI a c=some r):Ok Tryz.prog 68 [.lst .o 1 (a.map AV.i),.i c] (.b r):=by
 refine az ba m68 rfl ?_;unfold zI at h;simp only[ZC,A68,aN,aJ];obtain⟨g,d,h⟩:=af h;refine ZF trivial ?_;refine ZSG trivial (w_fn _ _ d) ?_;cases h;exact ZL trivial @aN.eq_1
theorem w_el(a:List Int)(p1Z0:Int){r:Bool}(h:DR a p1Z0=some r):Ok Tryz.prog 248 [.lst .o 1 (a.map AV.i),.bp .o (.i p1Z0) 0] (.b r):=by
 refine az ba m248 rfl ?_;unfold DR at h;simp only[ZC,A248,sr,aJ];obtain⟨d,c,h⟩:=af h;refine ZF trivial ?_;refine ZSG trivial (w_cq _ _ c) ?_;cases h;exact ZL trivial @sr.eq_1
def JZ(a:List (List Int))(F_fZ0:Nat)(C_fZ0:List AV)(v:Int):St:=⟨[(0,.lst .o 1 (a.map (cd .o))),(1,.fn F_fZ0 C_fZ0),(7,.i (a.length:Int)),(8,.i v)],[]⟩
theorem w_bk(c:List (List Int))(j:(List Int)->Option Bool)(F_fZ0:Nat)(C_fZ0:List AV)(hC_fZ0:lV C_fZ0)(hf_fZ0:∀(x0:List Int)(r:Bool),j x0=some r->Ok Tryz.prog F_fZ0 ((.lst .o 1 (x0.map AV.i))::C_fZ0) (.b r))(k:Int)(o:Int⊕(Unit⊕Int))(h:CK c j k=some o):AWP (OkS Tryz.prog) vf (qL [0,1,7,8] [] (JZ c F_fZ0 C_fZ0) (qS (qX 0 [] [] (cq)) (qR aN (fun r=>.i r))) o) (JZ c F_fZ0 C_fZ0 k):=by
 have e:=ZA @JZ.eq_1 @cq.eq_1;unfold CK at h;simp only[ZC,JZ,vf];obtain⟨a,h⟩|⟨a,h⟩:=aj h
 ·obtain⟨m,d,h⟩:=af h;obtain⟨p,l,h⟩:=af h;have f:=ZA a (aO d);refine ZF f ?_;have f:=ZA f hC_fZ0.1;refine ZSG f (hf_fZ0 _ _ l) ?_;obtain⟨g,h⟩|⟨g,h⟩:=aj h
  ·cases h;exact ZL (ZA a (ZA (aO d) g)) (ZA @aN.eq_1 (ZA hC_fZ0.2 ((ch hC_fZ0))))
  ·cases h;exact ZL (ZA a (ZA (aO d) g)) (ZA e (ZA hC_fZ0.2 ((ch hC_fZ0))))
 ·cases h;exact ZL a (ZA e (ZA hC_fZ0.2 ((ch hC_fZ0))))
theorem w_em(a:List (List Int))(c:(List Int)->Option Bool){r:Int}(h:DA a c=some r)(F_fZ0:Nat)(C_fZ0:List AV)(hC_fZ0:lV C_fZ0)(hf_fZ0:∀(x0:List Int)(r:Bool),c x0=some r->Ok Tryz.prog F_fZ0 ((.lst .o 1 (x0.map AV.i))::C_fZ0) (.b r)):Ok Tryz.prog 247 [.lst .o 1 (a.map (cd .o)),.fn F_fZ0 C_fZ0] (.i r):=by
 refine az ba m247 rfl ?_;unfold DA at h;simp only[ZC,A247,aN,aJ];obtain⟨d,g,h⟩:=af h;try refine ZF trivial ?_
 refine bj (o:=d) (bz de (aD (w_bk a c F_fZ0 C_fZ0 hC_fZ0 hf_fZ0) g ?_)) (fun k hv=>?_) (fun l hv e τ hne hq=>?_)
 ·exact ZK (ZA @JZ.eq_1 (ZA @cq.eq_1 (ZA hC_fZ0.2 ((ch hC_fZ0)))))
 ·subst hv;simp only[] at h;simp only[ZC,cq,JN];cases h;exact ZL trivial (ZA @aN.eq_1 (ZA hC_fZ0.2 ((ch hC_fZ0))))
 ·subst hv;simp only[] at h;obtain⟨rfl,j⟩:=hq;cases h;exact j
theorem w_en(a:ae)(b:Int){r:Int}(h:GD a b=some r):Ok Tryz.prog 230 [.agg [.lst .o 1 (a.N.map AV.z),.lst .o 4 (a.F.map (ai .o))],.i b] (.i r):=by
 refine az ba m230 rfl ?_;unfold GD at h;simp only[ZC,A230,aN,aJ];obtain⟨g,c,h⟩:=af h;refine ZF trivial ?_;refine ZUG trivial (w_ek _ c) ?_;obtain⟨j,d,h⟩:=af h;refine ZF trivial ?_;refine ZSG trivial (w_em _ _ d 248 [.bp .o (.i b) 0] ⟨fun ρ k=>by simp only[VS1,VS2,VS3,VS4,VS5,VS6,VT1,VT2,bJ,bK,decide_true,decide_false,List.nodup_nil,List.nodup_cons,fg,fd,ff,ne_eq,not_false_eq_true,Int.reduceEq,Int.reduceNe,true_and,false_and,Nat.reduceSub,Nat.reduceMul,↓reduceIte,reduceCtorEq,Nat.reduceEqDiff,Nat.reduceAdd,Nat.reduceLeDiff,Int.reduceLE],by simp[aF,AV.ments]⟩ (fun _ _ h=>w_el _ _ h)) ?_;cases h;exact ZL trivial @aN.eq_1
def IW(a:ae)(b:List Int)(v:Int×List Int):St:=⟨[(2,.pt 2 0 0),(5,.sl 5 0 v.2.length),(9,.lst .o 1 (b.map AV.i)),(10,.i (b.length:Int)),(11,.i v.1)],[(2,.var (.agg [.lst .o 1 (a.N.map AV.z),.lst .o 4 (a.F.map (ai .o))])),(5,.arr 1 (v.2.map AV.i))]⟩
theorem w_bl(c:ae)(d:List Int)(a:Int×List Int)(o:(Int×List Int)⊕(List Int))(h:Ck c d a=some o):AWP (OkS Tryz.prog) we (qL [2,5,9,10,11] [2,5] (IW c d) (qX 0 [5] [5] (ng)) o) (IW c d a):=by
 have e:=ZA @IW.eq_1 @ng.eq_1;unfold Ck at h;simp only[ZC,IW,we];obtain⟨g,h⟩|⟨g,h⟩:=aj h
 ·obtain⟨y,s,h⟩:=af h;obtain⟨t,u,h⟩:=af h;have f:=ZA g (aO s);refine ZF f ?_;refine ZSG f (w_en _ _ u) ?_;obtain⟨j,b,h⟩:=bh h;have v:Row.arr 1 [(.i t:AV)]=Row.arr 1 (j.map AV.i):=by rw[<-b];rfl
  have l:j.length=1:=by rw[<-b];rfl
  obtain⟨z,w,h⟩:=af h;have m:=aZ w;obtain⟨p,k,h⟩:=bh h;have x:a.2.map AV.i++j.map AV.i=p.map AV.i:=by rw[<-k,List.map_append]
  have q:a.2.length+1=p.length:=by simp[<-b,<-k]<;>omega
  rw[q] at m;cases h;exact ZL (ZA f (ZA v (ZA l (ZA m (ZA x q))))) (ZA e (ZA b.symm (ZA k.symm l)))
 ·cases h;exact ZL g e
theorem w_cr(a:ae)(b:List Int){r:List Int}(h:zN a b=some r):Ok Tryz.prog 202 [.agg [.lst .o 1 (a.N.map AV.z),.lst .o 4 (a.F.map (ai .o))],.lst .o 1 (b.map AV.i)] (.lst .u 1 (r.map AV.i)):=by
 refine az ba m202 rfl ?_;unfold zN at h;simp only[ZC,A202,aN,aJ];obtain⟨d,c,h⟩:=af h;try refine ZF trivial ?_
 refine aG (bf (aD (w_bl a b) c ?_)) ?_
 ·exact ZK (ZA @IW.eq_1 @ng.eq_1)
 ·simp only[ZC,ng,DC];cases h;exact ZL trivial @aN.eq_1
theorem w_fr(d:Int){r:Int}(h:QU d=some r):Ok Tryz.prog 259 [.sc (.int .u64 d)] (.i r):=by
 refine az ba m259 rfl ?_;unfold QU at h;simp only[ZC,A259,bq,aJ];obtain⟨g,j,h⟩:=af h;try refine ZF trivial ?_
 refine aG (sh:=(fun v=>⟨[(0,.sc (.int .u64 v.1)),(2,.i v.2)],[]⟩)) (s:=g) ?_ ?_
 ·replace h:=j;obtain⟨a,h⟩|⟨a,h⟩:=aj h
  ·cases h;exact ZL a trivial
  ·cases h;exact ZL a trivial
 ·simp only[ZC,HO];obtain⟨k,l,h⟩:=af h;try refine ZF trivial ?_
  refine aG (sh:=(fun v=>⟨[(0,.sc (.int .u64 v.1)),(2,.i v.2)],[]⟩)) (s:=k) ?_ ?_
  ·replace h:=l;obtain⟨b,h⟩|⟨b,h⟩:=aj h
   ·cases h;exact ZL b trivial
   ·cases h;exact ZL b trivial
  ·simp only[ZC,JW];obtain⟨m,p,h⟩:=af h;try refine ZF trivial ?_
   refine aG (sh:=(fun v=>⟨[(0,.sc (.int .u64 v.1)),(2,.i v.2)],[]⟩)) (s:=m) ?_ ?_
   ·replace h:=p;obtain⟨c,h⟩|⟨c,h⟩:=aj h
    ·cases h;exact ZL c trivial
    ·cases h;exact ZL c trivial
   ·simp only[ZC,JT];obtain⟨t,q,h⟩:=af h;cases h;exact ZL (jD q) @bq.eq_1
theorem w_eo(a:Int){r:Int}(h:IY a=some r):Ok Tryz.prog 232 [.sc (.int .u64 a)] (.i r):=by
 refine az ba m232 rfl ?_;unfold IY at h;simp only[ZC,A232,bq,aJ];obtain⟨c,b,h⟩:=af h;refine ZF trivial ?_;refine ZSG trivial (w_fr _ b) ?_;cases h;exact ZL trivial @bq.eq_1
theorem w_ep(d:Int)(g:Int){r:Bool}(h:Dv d g=some r):Ok Tryz.prog 255 [.i d,.i g] (.b r):=by
 refine az ba m255 rfl ?_;unfold Dv at h;simp only[ZC,A255,aN,aJ];obtain⟨l,j,h⟩:=af h;refine ZF trivial ?_;refine ZSG trivial (Lo _ j) ?_;obtain⟨a,h⟩|⟨a,h⟩:=aj h
 ·obtain⟨m,k,h⟩:=af h;refine ZF a ?_;refine ZSG a (Lo _ k) ?_;obtain⟨c,h⟩|⟨c,h⟩:=aj h
  ·cases h;exact ZL (ZA a c) @aN.eq_1
  ·cases h;exact ZL (ZA a c) @aN.eq_1
 ·cases h;exact ZL a @aN.eq_1
def S_l(a:Int)(b:Int)(c:Int×List Int)(v:Int×List Int):St:=⟨[(0,.sl 1000000000 0 v.2.length),(1,.i a),(2,.i b),(6,.i c.1),(7,.i v.1)],[(1000000000,.arr 1 (v.2.map AV.i))]⟩
def KW(a:Int)(b:Int)(c:Int×List Int)(v:List Int):St:=⟨[(0,.sl 1000000000 0 v.length),(1,.i a),(2,.i b),(6,.i c.1)],[(1000000000,.arr 1 (v.map AV.i))]⟩
theorem w_l(c:Int)(d:Int)(g:Int×List Int)(a:Int×List Int)(o:(Int×List Int)⊕(List Int))(h:M_l c a=some o):AWP (OkS Tryz.prog) ph (qL [0,1,2,6,7] [1000000000] (S_l c d g) (qX 2 [0,1,2,6] [1000000000] (KW c d g)) o) (S_l c d g a):=by
 have e:=ZA @S_l.eq_1 @KW.eq_1;unfold M_l at h;simp only[ZC,S_l,ph];obtain⟨q,t,h⟩:=af h;try refine ZF trivial ?_
 refine aG (sh:=(fun v=>⟨[(0,.sl 1000000000 0 a.2.length),(1,.i c),(2,.i d),(6,.i g.1),(7,.i a.1),(30,.b v)],[(1000000000,.arr 1 (a.2.map AV.i))]⟩)) (s:=q) ?_ ?_
 ·replace h:=t;obtain⟨j,h⟩|⟨j,h⟩:=aj h
  ·obtain⟨p1,u,h⟩:=af h;obtain⟨q1,w,h⟩:=af h;obtain⟨s1,x,h⟩:=af h;obtain⟨t1,y,h⟩:=af h;obtain⟨u1,z,h⟩:=af h;have f:=ZA j (ZA (aZ u) (ZA w (ZA (aZ x) y)));refine ZF f ?_;refine ZSG f (w_ep _ _ z) ?_;cases h;exact ZL f trivial
  ·cases h;exact ZL j trivial
 ·simp only[ZC,uW];obtain⟨k,h⟩|⟨k,h⟩:=aj h
  ·obtain⟨v1,a1,h⟩:=af h;obtain⟨b1,c1,h⟩:=af h;obtain⟨w1,d1,h⟩:=af h;obtain⟨g1,i1,h⟩:=af h;obtain⟨l,m,h⟩:=bh h;have j1:(a.2.map AV.i).set (Int.toNat a.1) (.i b1)=l.map AV.i:=by rw[<-m,List.map_set]
   obtain⟨y1,k1,h⟩:=af h;obtain⟨l1,p,h⟩:=bh h;have m1:(l.map AV.i).set (Int.toNat (IntKind.wrap .i64 (a.1-1))) (.i g1)=l1.map AV.i:=by rw[<-p,List.map_set]
   cases h;exact ZL (ZA k (ZA (aZ a1) (ZA c1 (ZA (aZ d1) (ZA i1 (ZA j1 (ZA k1 m1))))))) (ZA e (ZA m.symm p.symm))
  ·cases h;exact ZL k e
def S_t(a:Int)(b:Int)(v:Int×List Int):St:=⟨[(0,.sl 1000000000 0 v.2.length),(1,.i a),(2,.i b),(6,.i v.1)],[(1000000000,.arr 1 (v.2.map AV.i))]⟩
def LS(v:List Int):St:=⟨[],[(1000000000,.arr 1 (v.map AV.i))]⟩
theorem w_t(a:Int)(b:Int)(c:Int×List Int)(o:(Int×List Int)⊕(List Int))(h:M_t a b c=some o):AWP (OkS Tryz.prog) oG (qL [0,1,2,6] [1000000000] (S_t a b) (qX 0 [] [1000000000] (LS)) o) (S_t a b c):=by
 have e:=ZA @S_t.eq_1 @LS.eq_1;unfold M_t at h;simp only[ZC,S_t,oG];obtain⟨d,h⟩|⟨d,h⟩:=aj h
 ·obtain⟨k,l,h⟩:=af h;try refine ZF d ?_
  refine aG (sh:=(fun v=>⟨[(0,.sl 1000000000 0 v.length),(1,.i a),(2,.i b),(6,.i c.1)],[(1000000000,.arr 1 (v.map AV.i))]⟩)) (s:=k) ?_ ?_
  ·replace h:=l;obtain⟨m,g,h⟩:=af h;try refine ZF d ?_
   first|refine dv (bf (aD (w_l a b c) g ?_)) (fun τ j=>?_)|refine eJ (aD (w_l a b c) g ?_) (fun τ j=>?_)
   ·exact ZK (ZA @S_l.eq_1 @KW.eq_1)
   ·cases h;try refine ZF trivial ?_
    refine⟨rfl,Shp.sub j (by decide) (by decide) ?_⟩;exact ZK @KW.eq_1
  ·simp only[ZC,tM];cases h;exact ZL d e
 ·cases h;exact ZL d e
theorem w_eq(a:Int)(b:Int)(c:List Int){r:List Int}(h:DQ a b c=some r):OkM Tryz.prog 249 [.sl 1000000000 0 c.length,.i a,.i b] [(1000000000,.arr 1 (c.map AV.i))] (.tup []) ([(1000000000,.arr 1 (r.map AV.i))]):=by
 refine bw (lr:=[1000000000]) ba Rd rfl rfl ?_;unfold DQ at h;simp only[ZC,EE,bW];obtain⟨j,d,h⟩:=af h;try refine ZF trivial ?_
 first|refine dv (bf (aD (w_t a b) d ?_)) (fun τ g=>?_)|refine eJ (aD (w_t a b) d ?_) (fun τ g=>?_)
 ·exact ZK (ZA @S_t.eq_1 @LS.eq_1)
 ·cases h;refine jm g (by decide) ?_ rfl;exact ZK (ZA @bW.eq_1 @LS.eq_1)
def MC(c:Int)(d:Int)(g:Int)(a:List Int)(v:Unit):St:=⟨[(0,.sl 1000000000 0 a.length),(1,.i c),(2,.i d),(3,.i g),(8,.b true),(9,.b true)],[(1000000000,.arr 1 (a.map AV.i))]⟩
def OY(v:Empty):St:=⟨[],[]⟩
theorem w_ba(b:Int)(c:Int)(d:Int)(g:List Int)(j:Unit)(o:Unit⊕(Empty⊕(List Int)))(h:NT b c d g j=some o):AWP (OkS Tryz.prog) pc (qL [0,1,2,3,8,9] [1000000000] (MC b c d g) (qS (qX 0 [] [] (OY)) (qM bW [1000000000] (fun(r:List Int)=>.tup []) (fun(r:List Int)=>[(1000000000,.arr 1 (r.map AV.i))]))) o) (MC b c d g j):=by
 unfold NT at h;simp only[ZC,MC,pc];obtain⟨a,h⟩|⟨a,h⟩:=aj h
 ·obtain⟨m,k,h⟩:=af h;refine ZF a ?_;refine ZWG a (w_eq _ _ _ k) [1000000000] [] ?_;cases h;exact ZL a @bW.eq_1
 ·obtain⟨l,h⟩|⟨l,h⟩:=aj h
  ·cases h
  ·cases h
theorem w_fo(b:Int)(c:Int)(d:Int)(a:List Int){r:List Int}(h:Ml b c d a=some r):OkM Tryz.prog 231 [.sl 1000000000 0 a.length,.i b,.i c,.i d] [(1000000000,.arr 1 (a.map AV.i))] (.tup []) ([(1000000000,.arr 1 (r.map AV.i))]):=by
 refine bw (lr:=[1000000000]) ba QL rfl rfl ?_;unfold Ml at h;simp only[ZC,Hm,bW];obtain⟨g,j,h⟩:=af h;try refine ZF trivial ?_
 first|refine mg (o:=g) (bz Fm (aD (w_ba b c d a) j ?_)) (fun k hv τ l=>?_) (fun m hv e τ hne hq=>?_)|refine tC (o:=g) Fm (aD (w_ba b c d a) j ?_) (fun k hv τ l=>?_) (fun m hv e τ hne hq=>?_)
 ·exact ZK (ZA @MC.eq_1 @OY.eq_1)
 ·exact k.elim
 ·subst hv;simp only[] at h;obtain⟨rfl,p⟩:=hq;cases h;exact p
theorem w_er(a:List Int){r:List Int}(h:HL a=some r):OkM Tryz.prog 203 [.sl 1000000000 0 a.length] [(1000000000,.arr 1 (a.map AV.i))] (.tup []) ([(1000000000,.arr 1 (r.map AV.i))]):=by
 refine bw (lr:=[1000000000]) ba Rn rfl rfl ?_;unfold HL at h;simp only[ZC,Iu,bW];obtain⟨d,b,h⟩:=af h;refine ZF trivial ?_;refine ZSG trivial (w_eo _ b) ?_;obtain⟨g,c,h⟩:=af h;refine ZF trivial ?_;refine ZWG trivial (w_fo _ _ _ _ c) [1000000000] [] ?_;cases h;exact ZL trivial @bW.eq_1
def S_o(a:Nat)(b:Nat)(c:Int)(v:Int×Int×List Int):St:=⟨[(0,.sl 1000000000 a b),(3,.i v.1),(4,.sl 1000000000 (a+(Int.toNat c)) (b-(Int.toNat c))),(5,.i v.2.1)],[(1000000000,.arr 1 (v.2.2.map AV.i))]⟩
def KQ(a:Nat)(b:Nat)(v:Int×List Int):St:=⟨[(0,.sl 1000000000 a b),(3,.i v.1)],[(1000000000,.arr 1 (v.2.map AV.i))]⟩
theorem w_o(a:Nat)(b:Nat)(g:Int)(c:Int×Int×List Int)(o:(Int×Int×List Int)⊕(Int×List Int))(h:M_o a b g c=some o):AWP (OkS Tryz.prog) oK (qL [0,3,4,5] [1000000000] (S_o a b g) (qX 2 [0,3] [1000000000] (KQ a b)) o) (S_o a b g c):=by
 have e:=ZA @S_o.eq_1 @KQ.eq_1;unfold M_o at h;simp only[ZC,S_o,oK];obtain⟨d,h⟩|⟨d,h⟩:=aj h
 ·obtain⟨x,k,h⟩:=af h;obtain⟨s,l,h⟩:=af h;obtain⟨y,m,h⟩:=af h;obtain⟨z,p,h⟩:=af h;obtain⟨j,h⟩|⟨j,h⟩:=aj h
  ·obtain⟨a1,t,h⟩:=af h;obtain⟨b1,u,h⟩:=af h;obtain⟨v,q,h⟩:=bh h;have w:(c.2.2.map AV.i).set (a+(Int.toNat c.1)) (.i s)=v.map AV.i:=by rw[<-q,List.map_set]
   cases h;exact ZL (ZA d (ZA (aZ k) (ZA l (ZA (aZ m) (ZA p (ZA j (ZA (aZ t) (ZA u w)))))))) (ZA e q.symm)
  ·cases h;exact ZL (ZA d (ZA (aZ k) (ZA l (ZA (aZ m) (ZA p j))))) e
 ·cases h;exact ZL d e
def S_w(a:Nat)(b:Nat)(c:List Int)(v:Int):St:=⟨[(0,.sl 1000000000 a b),(3,.i v)],[(1000000000,.arr 1 (c.map AV.i))]⟩
def KG(a:Nat)(b:Nat)(c:List Int)(v:Unit):St:=⟨[(0,.sl 1000000000 a b)],[(1000000000,.arr 1 (c.map AV.i))]⟩
theorem w_w(a:Nat)(b:Nat)(c:List Int)(j:Int)(o:Int⊕(Unit⊕(Nat×Nat×List Int)))(h:M_w a b c j=some o):AWP (OkS Tryz.prog) nY (qL [0,3] [1000000000] (S_w a b c) (qS (qX 0 [0] [1000000000] (KG a b c)) (qM bq [1000000000] (fun(r:Nat×Nat×List Int)=>.sl 1000000000 r.1 r.2.1) (fun(r:Nat×Nat×List Int)=>[(1000000000,.arr 1 (r.2.2.map AV.i))]))) o) (S_w a b c j):=by
 have e:=ZA @S_w.eq_1 @KG.eq_1;unfold M_w at h;simp only[ZC,S_w,nY];obtain⟨d,h⟩|⟨d,h⟩:=aj h
 ·obtain⟨a1,l,h⟩:=af h;obtain⟨b1,m,h⟩:=af h;obtain⟨c1,p,h⟩:=af h;obtain⟨d1,q,h⟩:=af h;obtain⟨k,h⟩|⟨k,h⟩:=aj h
  ·obtain⟨g1,v,h⟩:=af h;obtain⟨g,w,h⟩:=af h;have f:=ZA d (ZA (aZ l) (ZA m (ZA (aZ p) (ZA q (ZA k (aZ v))))));try refine ZF f ?_
   refine aG (bf (aD (w_o a b j) w ?_)) ?_
   ·exact ZK (ZA @S_o.eq_1 @KQ.eq_1)
   ·simp only[ZC,KQ,tj];obtain⟨i1,x,h⟩:=af h;obtain⟨s,t,h⟩:=bh h;have u:dA (g.2.map AV.i) (a+(Int.toNat g.1)) (List.replicate (b-(Int.toNat g.1)) (.i 0:AV))=s.map AV.i:=by rw[<-t,<-Js]<;>simp[List.map_take]
    try simp only[Int.toNat_natCast] at u
    have y:s.length=g.2.length:=by rw[<-t];exact mT _ _ _
    obtain⟨j1,z,h⟩:=af h;cases h;exact ZL (ZA f (ZA (aZ x) (ZA u (aZ z)))) (ZA @bq.eq_1 y)
  ·cases h;exact ZL (ZA d (ZA (aZ l) (ZA m (ZA (aZ p) (ZA q k))))) e
 ·cases h;exact ZL d e
theorem w_dd(b:Nat)(c:Nat)(d:List Int){r:Nat×Nat×List Int}(h:DL b c d=some r):OkM Tryz.prog 204 [.sl 1000000000 b c] [(1000000000,.arr 1 (d.map AV.i))] (.sl 1000000000 r.1 r.2.1) ([(1000000000,.arr 1 (r.2.2.map AV.i))]):=by
 refine bw (lr:=[1000000000]) ba Px rfl rfl ?_;unfold DL at h;simp only[ZC,Hu,bq];obtain⟨a,h⟩|⟨a,h⟩:=aj h
 ·cases h;exact ZL a @bq.eq_1
 ·obtain⟨g,j,h⟩:=af h;try refine ZF a ?_
  refine bj (o:=g) (bz Fm (aD (w_w b c d) j ?_)) (fun l hv=>?_) (fun m hv e τ hne hq=>?_)
  ·exact ZK (ZA @S_w.eq_1 @KG.eq_1)
  ·subst hv;simp only[] at h;simp only[ZC,KG,ue];cases h;exact ZL a @bq.eq_1
  ·subst hv;simp only[] at h;obtain⟨rfl,k⟩:=hq;cases h;exact k
def Db(a:List Int)(b:List Int)(v:Int×List Int):St:=⟨[(1,.lst .o 1 (b.map AV.i)),(5,.sl 5 0 v.2.length),(9,.lst .o 1 (a.map AV.i)),(10,.i (a.length:Int)),(11,.i v.1)],[(5,.arr 1 (v.2.map AV.i))]⟩
theorem w_au(c:List Int)(d:List Int)(a:Int×List Int)(o:(Int×List Int)⊕(List Int))(h:xB c d a=some o):AWP (OkS Tryz.prog) vp (qL [1,5,9,10,11] [5] (Db c d) (qX 0 [5] [5] (ng)) o) (Db c d a):=by
 have e:=ZA @Db.eq_1 @ng.eq_1;unfold xB at h;simp only[ZC,Db,vp];obtain⟨g,h⟩|⟨g,h⟩:=aj h
 ·obtain⟨t,u,h⟩:=af h;obtain⟨z,v,h⟩:=af h;have f:=ZA g (aO u);refine ZF f ?_;refine ZSG f (w_cq _ _ v) ?_;obtain⟨j,h⟩|⟨j,h⟩:=aj h
  ·obtain⟨k,b,h⟩:=bh h;have w:Row.arr 1 [(.i t:AV)]=Row.arr 1 (k.map AV.i):=by rw[<-b];rfl
   have m:k.length=1:=by rw[<-b];rfl
   obtain⟨a1,x,h⟩:=af h;have p:=aZ x;obtain⟨q,l,h⟩:=bh h;have y:a.2.map AV.i++k.map AV.i=q.map AV.i:=by rw[<-l,List.map_append]
   have s:a.2.length+1=q.length:=by simp[<-b,<-l]<;>omega
   rw[s] at p;cases h;exact ZL (ZA f (ZA j (ZA w (ZA m (ZA p (ZA y s)))))) (ZA e (ZA b.symm (ZA l.symm m)))
  ·cases h;exact ZL (ZA f j) e
 ·cases h;exact ZL g e
theorem w_de(a:List Int)(b:List Int){r:List Int}(h:Ie a b=some r):Ok Tryz.prog 140 [.lst .o 1 (a.map AV.i),.lst .o 1 (b.map AV.i)] (.lst .u 1 (r.map AV.i)):=by
 refine az ba m140 rfl ?_;unfold Ie at h;simp only[ZC,A140,aN,aJ];obtain⟨p,d,h⟩:=af h;try refine ZF trivial ?_
 refine aG (bf (aD (w_au a b) d ?_)) ?_
 ·exact ZK (ZA @Db.eq_1 @ng.eq_1)
 ·simp only[ZC,ng,CQ];obtain⟨q,g,h⟩:=af h;refine ZF trivial ?_;refine ZWG trivial (w_er _ g) [1000000000] [] ?_;obtain⟨c,j,h⟩:=af h;refine ZF trivial ?_;refine ZWG trivial (w_dd _ _ _ j) [1000000000] [] ?_;obtain⟨k,l,h⟩:=bh h;have m:sub (c.2.2.map AV.i) c.1 c.2.1=k.map AV.i:=by rw[eX,l]
  cases h;exact ZL m @aN.eq_1
theorem w_cz(a:ae)(c:List Int)(d:List Int){r:Bool}(h:Ag a c d=some r):Ok Tryz.prog 136 [.agg [.lst .o 1 (a.N.map AV.z),.lst .o 4 (a.F.map (ai .o))],.lst .o 1 (c.map AV.i),.lst .o 1 (d.map AV.i)] (.b r):=by
 refine az ba m136 rfl ?_;unfold Ag at h;simp only[ZC,A136,cQ,aJ];obtain⟨l,g,h⟩:=af h;refine ZF trivial ?_;refine ZUG trivial (w_cr _ _ g) ?_;obtain⟨m,j,h⟩:=af h;refine ZF trivial ?_;refine ZUG trivial (w_cr _ _ j) ?_;obtain⟨p,k,h⟩:=af h;refine ZF trivial ?_;refine ZUG trivial (w_de _ _ k) ?_;cases h;exact ZL trivial @cQ.eq_1
theorem w_e(a:aA){r:Int}(h:M_e a=some r):Ok Tryz.prog 187 [.agg [.i a.F.N,.lst .o 1 (a.F.F.map AV.i),.i a.N]] (.i r):=by
 refine az ba m187 rfl ?_;unfold M_e at h;simp only[ZC,A187,bq,aJ];cases h;exact ZL trivial @bq.eq_1
def S_u{H:World->Prop}(g:ae)(a:List (ar H)×Bool)(c:Bool×Int×(ar H)×(ar H))(d:(ar H))(v:Bool×Int×(ar H)×(ar H)):St:=⟨[(3,.pt 3 0 0),(6,.pt 6 0 0),(7,.pt 7 0 0),(9,.sl 9 0 a.1.length),(11,.pt 11 0 0),(12,.pt 12 0 0),(13,.b v.1),(15,.pt 15 0 0),(34,.sl 9 0 a.1.length),(35,.i (a.1.length:Int)),(36,.i c.2.1),(44,.sl 9 (Int.toNat (IntKind.wrap .i64 (c.2.1+1))) (a.1.length-(Int.toNat (IntKind.wrap .i64 (c.2.1+1))))),(45,.i (((a.1.length-(Int.toNat (IntKind.wrap .i64 (c.2.1+1)))):Nat):Int)),(46,.i v.2.1)],[(3,.var (.agg [.lst .o 1 (g.N.map AV.z),.lst .o 4 (g.F.map (ai .o))])),(6,.var (.agg [.i 0,.lst .u 1 [],.i 0])),(7,.var (.agg [.i 0,.lst .u 1 [],.i 0])),(9,.arr 3 (a.1.map (aM .u))),(11,.var (.agg [.i (((v.2.2.1).F).N),.sc ((((v.2.2.1).F).F).v),.i ((v.2.2.1).N)])),(12,.var (.agg [.i (((v.2.2.2).F).N),.sc ((((v.2.2.2).F).F).v),.i ((v.2.2.2).N)])),(15,.var (.agg [.i d.F.N,.sc (d.F.F.v),.i d.N]))]⟩
def MP{H:World->Prop}(c:ae)(a:List (ar H)×Bool)(d:Bool×Int×(ar H)×(ar H))(v:Bool×(ar H)×(ar H)):St:=⟨[(3,.pt 3 0 0),(6,.pt 6 0 0),(7,.pt 7 0 0),(9,.sl 9 0 a.1.length),(11,.pt 11 0 0),(12,.pt 12 0 0),(13,.b v.1),(34,.sl 9 0 a.1.length),(35,.i (a.1.length:Int)),(36,.i d.2.1)],[(3,.var (.agg [.lst .o 1 (c.N.map AV.z),.lst .o 4 (c.F.map (ai .o))])),(6,.var (.agg [.i 0,.lst .u 1 [],.i 0])),(7,.var (.agg [.i 0,.lst .u 1 [],.i 0])),(9,.arr 3 (a.1.map (aM .u))),(11,.var (.agg [.i (((v.2.1).F).N),.sc ((((v.2.1).F).F).v),.i ((v.2.1).N)])),(12,.var (.agg [.i (((v.2.2).F).N),.sc ((((v.2.2).F).F).v),.i ((v.2.2).N)]))]⟩
theorem w_u{H:World->Prop}(k:ae)(c:List (ar H)×Bool)(d:Bool×Int×(ar H)×(ar H))(j:(ar H))(a:Bool×Int×(ar H)×(ar H))(o:(Bool×Int×(ar H)×(ar H))⊕(Bool×(ar H)×(ar H)))(h:bE k c d j a=some o):AWP (OkT H Tryz.prog) vg (qL [3,6,7,9,11,12,13,15,34,35,36,44,45,46] [3,6,7,9,11,12,15] (S_u k c d j) (qX 2 [3,6,7,9,11,12,13,34,35,36] [3,6,7,9,11,12] (MP k c d)) o) (S_u k c d j a):=by
 have e:=ZA @S_u.eq_1 @MP.eq_1;unfold bE at h;simp only[ZC,S_u,vg];obtain⟨w,h⟩|⟨w,h⟩:=aj h
 ·obtain⟨v2,i1,h⟩:=af h;obtain⟨w2,j1,h⟩:=af h;obtain⟨x2,k1,h⟩:=af h;have f:=ZA w (ZA (aZ i1) j1);refine ZF f ?_;refine ZSG f (w_cz _ _ _ k1) ?_;obtain⟨x,h⟩|⟨x,h⟩:=aj h
  ·cases h;exact ZL (ZA f x) e
  ·obtain⟨g,l1,h⟩:=af h;have f:=ZA f x;try refine ZF f ?_
   refine aG (sh:=(fun v=>⟨[(3,.pt 3 0 0),(6,.pt 6 0 0),(7,.pt 7 0 0),(9,.sl 9 0 c.1.length),(11,.pt 11 0 0),(12,.pt 12 0 0),(13,.b a.1),(15,.pt 15 0 0),(18,.pt 18 0 0),(19,.pt 19 0 0),(34,.sl 9 0 c.1.length),(35,.i (c.1.length:Int)),(36,.i d.2.1),(44,.sl 9 (Int.toNat (IntKind.wrap .i64 (d.2.1+1))) (c.1.length-(Int.toNat (IntKind.wrap .i64 (d.2.1+1))))),(45,.i (((c.1.length-(Int.toNat (IntKind.wrap .i64 (d.2.1+1)))):Nat):Int)),(46,.i a.2.1)],[(3,.var (.agg [.lst .o 1 (k.N.map AV.z),.lst .o 4 (k.F.map (ai .o))])),(6,.var (.agg [.i 0,.lst .u 1 [],.i 0])),(7,.var (.agg [.i 0,.lst .u 1 [],.i 0])),(9,.arr 3 (c.1.map (aM .u))),(11,.var (.agg [.i (((a.2.2.1).F).N),.sc ((((a.2.2.1).F).F).v),.i ((a.2.2.1).N)])),(12,.var (.agg [.i (((a.2.2.2).F).N),.sc ((((a.2.2.2).F).F).v),.i ((a.2.2.2).N)])),(15,.var (.agg [.i j.F.N,.sc (j.F.F.v),.i j.N])),(18,.var (.agg [.i (((v.1).F).N),.sc ((((v.1).F).F).v),.i ((v.1).N)])),(19,.var (.agg [.i (((v.2).F).N),.sc ((((v.2).F).F).v),.i ((v.2).N)]))]⟩)) (s:=g) ?_ ?_
   ·replace h:=l1;obtain⟨y2,m1,h⟩:=af h;refine ZF f ?_;refine ZSG f (w_e _ m1) ?_;obtain⟨z2,p1,h⟩:=af h;refine ZF f ?_;refine ZSG f (w_e _ p1) ?_;obtain⟨y,h⟩|⟨y,h⟩:=aj h
    ·cases h;exact ZL (ZA f y) trivial
    ·cases h;exact ZL (ZA f y) trivial
   ·simp only[ZC,Kd];obtain⟨a3,q1,h⟩:=af h;refine ZF f ?_;refine ZSG f (w_e _ q1) ?_;obtain⟨b3,s1,h⟩:=af h;refine ZF f ?_;refine ZSG f (w_e _ s1) ?_;obtain⟨c3,t1,h⟩:=af h;refine ZF f ?_;refine ZSG f (w_e _ t1) ?_;obtain⟨d3,u1,h⟩:=af h;refine ZF f ?_;refine ZSG f (w_e _ u1) ?_;obtain⟨v1,w1,h⟩:=af h;refine ZF f ?_;refine ZSG f (w_i _ _ w1) ?_;obtain⟨p,m,h⟩:=bh h;have y1:Row.arr 1 [(.i v1:AV),(.i 0:AV)]=Row.arr 1 (p.map AV.i):=by rw[<-m];rfl
    have l:p.length=2:=by rw[<-m];rfl
    have z1:sub (p.map AV.i) 0 2=p.map AV.i:=kE _ (by simp[<-m]);obtain⟨a2,b2,h⟩:=af h;have f:=ZA f (ZA y1 (ZA l z1));refine ZF f ?_;refine ZSG f (w_r _ b2) ?_;obtain⟨c2,d2,h⟩:=af h;try refine ZF f ?_
    refine aG (sh:=(fun v=>⟨[(3,.pt 3 0 0),(6,.pt 6 0 0),(7,.pt 7 0 0),(9,.sl 9 0 c.1.length),(11,.pt 11 0 0),(12,.pt 12 0 0),(13,.b a.1),(15,.pt 15 0 0),(18,.pt 18 0 0),(19,.pt 19 0 0),(20,.i v),(34,.sl 9 0 c.1.length),(35,.i (c.1.length:Int)),(36,.i d.2.1),(44,.sl 9 (Int.toNat (IntKind.wrap .i64 (d.2.1+1))) (c.1.length-(Int.toNat (IntKind.wrap .i64 (d.2.1+1))))),(45,.i (((c.1.length-(Int.toNat (IntKind.wrap .i64 (d.2.1+1)))):Nat):Int)),(46,.i a.2.1)],[(3,.var (.agg [.lst .o 1 (k.N.map AV.z),.lst .o 4 (k.F.map (ai .o))])),(6,.var (.agg [.i 0,.lst .u 1 [],.i 0])),(7,.var (.agg [.i 0,.lst .u 1 [],.i 0])),(9,.arr 3 (c.1.map (aM .u))),(11,.var (.agg [.i (((a.2.2.1).F).N),.sc ((((a.2.2.1).F).F).v),.i ((a.2.2.1).N)])),(12,.var (.agg [.i (((a.2.2.2).F).N),.sc ((((a.2.2.2).F).F).v),.i ((a.2.2.2).N)])),(15,.var (.agg [.i j.F.N,.sc (j.F.F.v),.i j.N])),(18,.var (.agg [.i (((g.1).F).N),.sc ((((g.1).F).F).v),.i ((g.1).N)])),(19,.var (.agg [.i (((g.2).F).N),.sc ((((g.2).F).F).v),.i ((g.2).N)]))]⟩)) (s:=c2) ?_ ?_
    ·replace h:=d2;obtain⟨g2,i2,h⟩:=af h;try refine ZF f ?_
     refine aG (sh:=(fun v=>⟨[(3,.pt 3 0 0),(6,.pt 6 0 0),(7,.pt 7 0 0),(9,.sl 9 0 c.1.length),(11,.pt 11 0 0),(12,.pt 12 0 0),(13,.b a.1),(15,.pt 15 0 0),(18,.pt 18 0 0),(19,.pt 19 0 0),(20,.i a2),(34,.sl 9 0 c.1.length),(35,.i (c.1.length:Int)),(36,.i d.2.1),(44,.sl 9 (Int.toNat (IntKind.wrap .i64 (d.2.1+1))) (c.1.length-(Int.toNat (IntKind.wrap .i64 (d.2.1+1))))),(45,.i (((c.1.length-(Int.toNat (IntKind.wrap .i64 (d.2.1+1)))):Nat):Int)),(46,.i a.2.1),(85,.b v)],[(3,.var (.agg [.lst .o 1 (k.N.map AV.z),.lst .o 4 (k.F.map (ai .o))])),(6,.var (.agg [.i 0,.lst .u 1 [],.i 0])),(7,.var (.agg [.i 0,.lst .u 1 [],.i 0])),(9,.arr 3 (c.1.map (aM .u))),(11,.var (.agg [.i (((a.2.2.1).F).N),.sc ((((a.2.2.1).F).F).v),.i ((a.2.2.1).N)])),(12,.var (.agg [.i (((a.2.2.2).F).N),.sc ((((a.2.2.2).F).F).v),.i ((a.2.2.2).N)])),(15,.var (.agg [.i j.F.N,.sc (j.F.F.v),.i j.N])),(18,.var (.agg [.i (((g.1).F).N),.sc ((((g.1).F).F).v),.i ((g.1).N)])),(19,.var (.agg [.i (((g.2).F).N),.sc ((((g.2).F).F).v),.i ((g.2).N)]))]⟩)) (s:=g2) ?_ ?_
     ·replace h:=i2;obtain⟨a1,h⟩|⟨a1,h⟩:=aj h
      ·cases h;exact ZL (ZA f a1) (ZA m.symm l)
      ·cases h;exact ZL (ZA f a1) (ZA m.symm l)
     ·simp only[ZC,EA];obtain⟨b1,h⟩|⟨b1,h⟩:=aj h
      ·obtain⟨j2,k2,h⟩:=af h;have f:=ZA f b1;refine ZF f ?_;refine ZSG f (Pn _ _ _ k2) ?_;obtain⟨l2,m2,h⟩:=af h;refine ZF f ?_;refine ZSG f (Pn _ _ _ m2) ?_;obtain⟨q,t,h⟩:=bh h;have p2:Row.arr 1 [(.i j2:AV),(.i l2:AV)]=Row.arr 1 (q.map AV.i):=by rw[<-t];rfl
       have g1:q.length=2:=by rw[<-t];rfl
       have q2:sub (q.map AV.i) 0 2=q.map AV.i:=kE _ (by simp[<-t]);obtain⟨g3,s2,h⟩:=af h;have f:=ZA f (ZA p2 (ZA g1 q2));refine ZF f ?_;refine ZSG f (w_r _ s2) ?_;cases h;exact ZL f (ZA t.symm (ZA l g1))
      ·cases h;exact ZL (ZA f b1) l
    ·simp only[ZC,HX];obtain⟨t2,u2,h⟩:=af h;try refine ZF f ?_
     refine aG (sh:=(fun v=>⟨[(3,.pt 3 0 0),(6,.pt 6 0 0),(7,.pt 7 0 0),(9,.sl 9 0 c.1.length),(11,.pt 11 0 0),(12,.pt 12 0 0),(13,.b a.1),(15,.pt 15 0 0),(18,.pt 18 0 0),(19,.pt 19 0 0),(34,.sl 9 0 c.1.length),(35,.i (c.1.length:Int)),(36,.i d.2.1),(44,.sl 9 (Int.toNat (IntKind.wrap .i64 (d.2.1+1))) (c.1.length-(Int.toNat (IntKind.wrap .i64 (d.2.1+1))))),(45,.i (((c.1.length-(Int.toNat (IntKind.wrap .i64 (d.2.1+1)))):Nat):Int)),(46,.i a.2.1),(105,.b v)],[(3,.var (.agg [.lst .o 1 (k.N.map AV.z),.lst .o 4 (k.F.map (ai .o))])),(6,.var (.agg [.i 0,.lst .u 1 [],.i 0])),(7,.var (.agg [.i 0,.lst .u 1 [],.i 0])),(9,.arr 3 (c.1.map (aM .u))),(11,.var (.agg [.i (((a.2.2.1).F).N),.sc ((((a.2.2.1).F).F).v),.i ((a.2.2.1).N)])),(12,.var (.agg [.i (((a.2.2.2).F).N),.sc ((((a.2.2.2).F).F).v),.i ((a.2.2.2).N)])),(15,.var (.agg [.i j.F.N,.sc (j.F.F.v),.i j.N])),(18,.var (.agg [.i (((g.1).F).N),.sc ((((g.1).F).F).v),.i ((g.1).N)])),(19,.var (.agg [.i (((g.2).F).N),.sc ((((g.2).F).F).v),.i ((g.2).N)]))]⟩)) (s:=t2) ?_ ?_
     ·replace h:=u2;obtain⟨c1,h⟩|⟨c1,h⟩:=aj h
      ·cases h;exact ZL (ZA f c1) l
      ·cases h;exact ZL (ZA f c1) l
     ·simp only[ZC,Iv];obtain⟨d1,h⟩|⟨d1,h⟩:=aj h
      ·cases h;exact ZL (ZA f d1) (ZA e l)
      ·cases h;exact ZL (ZA f d1) (ZA e l)
 ·cases h;exact ZL w e
def S_n{H:World->Prop}(c:ae)(a:List (ar H)×Bool)(v:Bool×Int×(ar H)×(ar H)):St:=⟨[(3,.pt 3 0 0),(6,.pt 6 0 0),(7,.pt 7 0 0),(9,.sl 9 0 a.1.length),(11,.pt 11 0 0),(12,.pt 12 0 0),(13,.b v.1),(34,.sl 9 0 a.1.length),(35,.i (a.1.length:Int)),(36,.i v.2.1)],[(3,.var (.agg [.lst .o 1 (c.N.map AV.z),.lst .o 4 (c.F.map (ai .o))])),(6,.var (.agg [.i 0,.lst .u 1 [],.i 0])),(7,.var (.agg [.i 0,.lst .u 1 [],.i 0])),(9,.arr 3 (a.1.map (aM .u))),(11,.var (.agg [.i (((v.2.2.1).F).N),.sc ((((v.2.2.1).F).F).v),.i ((v.2.2.1).N)])),(12,.var (.agg [.i (((v.2.2.2).F).N),.sc ((((v.2.2.2).F).F).v),.i ((v.2.2.2).N)]))]⟩
def No{H:World->Prop}(v:Bool×(ar H)×(ar H)):St:=⟨[(6,.pt 6 0 0),(7,.pt 7 0 0),(11,.pt 11 0 0),(12,.pt 12 0 0),(13,.b v.1)],[(6,.var (.agg [.i 0,.lst .u 1 [],.i 0])),(7,.var (.agg [.i 0,.lst .u 1 [],.i 0])),(11,.var (.agg [.i (((v.2.1).F).N),.sc ((((v.2.1).F).F).v),.i ((v.2.1).N)])),(12,.var (.agg [.i (((v.2.2).F).N),.sc ((((v.2.2).F).F).v),.i ((v.2.2).N)]))]⟩
theorem w_n{H:World->Prop}(c:ae)(a:List (ar H)×Bool)(d:Bool×Int×(ar H)×(ar H))(o:(Bool×Int×(ar H)×(ar H))⊕(Bool×(ar H)×(ar H)))(h:bo c a d=some o):AWP (OkT H Tryz.prog) xd (qL [3,6,7,9,11,12,13,34,35,36] [3,6,7,9,11,12] (S_n c a) (qX 0 [6,7,11,12,13] [6,7,11,12] (No)) o) (S_n c a d):=by
 have e:=ZA @S_n.eq_1 @No.eq_1;unfold bo at h;simp only[ZC,S_n,xd];obtain⟨g,h⟩|⟨g,h⟩:=aj h
 ·obtain⟨m,p,h⟩:=af h;try refine ZF g ?_
  refine aG (sh:=(fun v=>⟨[(3,.pt 3 0 0),(6,.pt 6 0 0),(7,.pt 7 0 0),(9,.sl 9 0 a.1.length),(11,.pt 11 0 0),(12,.pt 12 0 0),(13,.b v.1),(34,.sl 9 0 a.1.length),(35,.i (a.1.length:Int)),(36,.i d.2.1)],[(3,.var (.agg [.lst .o 1 (c.N.map AV.z),.lst .o 4 (c.F.map (ai .o))])),(6,.var (.agg [.i 0,.lst .u 1 [],.i 0])),(7,.var (.agg [.i 0,.lst .u 1 [],.i 0])),(9,.arr 3 (a.1.map (aM .u))),(11,.var (.agg [.i (((v.2.1).F).N),.sc ((((v.2.1).F).F).v),.i ((v.2.1).N)])),(12,.var (.agg [.i (((v.2.2).F).N),.sc ((((v.2.2).F).F).v),.i ((v.2.2).N)]))]⟩)) (s:=m) ?_ ?_
  ·replace h:=p;obtain⟨x,q,h⟩:=af h;obtain⟨j,t,h⟩:=af h;obtain⟨y,w,h⟩:=af h;obtain⟨a1,k,h⟩:=af h;try refine ZF (ZA g (ZA (aZ q) (ZA t (aZ w)))) ?_
   first|refine dv (bf (aD (w_u c a d j) k ?_)) (fun τ l=>?_)|refine eJ (aD (w_u c a d j) k ?_) (fun τ l=>?_)
   ·exact ZK (ZA @S_u.eq_1 @MP.eq_1)
   ·cases h;try refine ZF trivial ?_
    refine⟨rfl,Shp.sub l (by decide) (by decide) ?_⟩;exact ZK @MP.eq_1
  ·simp only[ZC,JB];cases h;exact ZL g e
 ·cases h;exact ZL g e
theorem w_es(c:ae)(g:List au)(a:aI){r:aA×aA×Bool}(h:HI c g a=some r):Ok Tryz.prog 124 [.agg [.lst .o 1 (c.N.map AV.z),.lst .o 4 (c.F.map (ai .o))],.lst .o 2 (g.map (ay .o)),.agg [.i a.N,.i a.L,.i a.F,.i a.P]] (.tup [.agg [.i r.1.F.N,.lst .u 1 (r.1.F.F.map AV.i),.i r.1.N],.agg [.i r.2.1.F.N,.lst .u 1 (r.2.1.F.F.map AV.i),.i r.2.1.N],.b r.2.2]):=by
 refine Hb (n:=3) ba m124 rfl rfl ?_;unfold HI at h;show AWP _ Ox _ _;simp only[ZC,Ox];obtain⟨j,k,h⟩:=af h;refine ZF trivial ?_;refine ZUG trivial (w_ej _ _ _ k) ?_;refine ZF trivial ?_;refine Dq 9 11 12 (j.1.map fun x=>(x.F.N,x.F.F,[x.N])) rfl (by simp[elU,VT1]) (by decide) rfl rfl fun H Z hZ=>?_;obtain⟨Zr,p,q,m⟩:=wd hZ;obtain⟨l,b⟩:=j;simp only at m h k⊢;subst m;rw[p,q];simp only[ZC,OX,List.length_map,List.map_cons,List.map_nil,IH,zT];obtain⟨d,h⟩|⟨d,h⟩:=aj h
 ·cases h;try refine ZF d ?_
  simp[qL,qJ,qJ0,qS,qX,qR,qM,Shp,sub,dG,bJ,bK,VS1,VS2,VS3,VS4,VS5,VS6,VT1,VT2,Rc];exact⟨_,sa nF nF (.sc _),by simp⟩
 ·obtain⟨t,s,h⟩:=af h;obtain⟨lT,hlT,hoT⟩:=SF s;try refine ZF d ?_
  refine aG (bf (aD (w_n c (Zr,b)) hlT ?_)) ?_
  ·exact ZK (ZA @S_n.eq_1 (ZA @No.eq_1 @ar.zero.eq_1))
  ·simp only[ZC,No,GV];cases h;try refine ZF d ?_
   simp[qL,qJ,qJ0,qS,qX,qR,qM,Shp,sub,dG,bJ,bK,VS1,VS2,VS3,VS4,VS5,VS6,VT1,VT2,Rc];rw[<-hoT];exact MB rfl (RH _ _ _ hlT)
theorem w_cf(c:ae)(d:List au)(a:aI){r:ah×ah×Bool}(h:uR c d a=some r):Ok Tryz.prog 47 [.agg [.lst .o 1 (c.N.map AV.z),.lst .o 4 (c.F.map (ai .o))],.lst .o 2 (d.map (ay .o)),.agg [.i a.N,.i a.L,.i a.F,.i a.P]] (.tup [.agg [.i r.1.N,.lst .u 1 (r.1.F.map AV.i)],.agg [.i r.2.1.N,.lst .u 1 (r.2.1.F.map AV.i)],.b r.2.2]):=by
 refine az ba m47 rfl ?_;unfold uR at h;simp only[ZC,A47,mM,aJ];obtain⟨j,g,h⟩:=af h;refine ZF trivial ?_;refine ZUG trivial (w_es _ _ _ g) ?_;cases h;exact ZL trivial @mM.eq_1
def Dd(a:List Int)(b:List Int)(v:Int):St:=⟨[(0,.lst .o 1 (a.map AV.i)),(1,.lst .o 1 (b.map AV.i)),(5,.i v)],[]⟩
theorem w_bm(c:List Int)(d:List Int)(i:Int)(o:Int⊕(Unit⊕Bool))(h:BL c d i=some o):AWP (OkS Tryz.prog) HV (qL [0,1,5] [] (Dd c d) (qS (qX 0 [] [] (cq)) (qR aN (fun r=>.b r))) o) (Dd c d i):=by
 have e:=ZA @Dd.eq_1 @cq.eq_1;unfold BL at h;simp only[ZC,Dd,HV];obtain⟨a,h⟩|⟨a,h⟩:=aj h
 ·obtain⟨l,j,h⟩:=af h;obtain⟨m,k,h⟩:=af h;obtain⟨g,h⟩|⟨g,h⟩:=aj h
  ·cases h;exact ZL (ZA a (ZA (aO j) (ZA (aO k) g))) @aN.eq_1
  ·cases h;exact ZL (ZA a (ZA (aO j) (ZA (aO k) g))) e
 ·cases h;exact ZL a e
theorem w_et(c:List Int)(d:List Int){r:Bool}(h:FZ c d=some r):Ok Tryz.prog 36 [.lst .o 1 (c.map AV.i),.lst .o 1 (d.map AV.i)] (.b r):=by
 refine az ba m36 rfl ?_;unfold FZ at h;simp only[ZC,A36,aN,aJ];obtain⟨a,h⟩|⟨a,h⟩:=aj h
 ·cases h;exact ZL a @aN.eq_1
 ·obtain⟨g,j,h⟩:=af h;try refine ZF a ?_
  refine bj (o:=g) (bz de (aD (w_bm c d) j ?_)) (fun l hv=>?_) (fun m hv e τ hne hq=>?_)
  ·exact ZK (ZA @Dd.eq_1 @cq.eq_1)
  ·subst hv;simp only[] at h;simp only[ZC,cq,Pa];cases h;exact ZL a @aN.eq_1
  ·subst hv;simp only[] at h;obtain⟨rfl,k⟩:=hq;cases h;exact k
theorem zO(c:ah)(d:ah){r:Bool}(h:pW c d=some r):Ok Tryz.prog 48 [.agg [.i c.N,.lst .o 1 (c.F.map AV.i)],.agg [.i d.N,.lst .o 1 (d.F.map AV.i)]] (.b r):=by
 refine az ba m48 rfl ?_;unfold pW at h;simp only[ZC,A48,aN,aJ];obtain⟨a,h⟩|⟨a,h⟩:=aj h
 ·cases h;exact ZL a @aN.eq_1
 ·obtain⟨k,j,h⟩:=af h;refine ZF a ?_;refine ZSG a (w_et _ _ j) ?_;obtain⟨g,h⟩|⟨g,h⟩:=aj h
  ·cases h;exact ZL (ZA a g) @aN.eq_1
  ·cases h;exact ZL (ZA a g) @aN.eq_1
def IX(a:List ByteArray)(b:List ByteArray)(v:Int):St:=⟨[(0,.lst .o 1 (a.map AV.z)),(1,.lst .o 1 (b.map AV.z)),(5,.i v)],[]⟩
theorem w_bn(c:List ByteArray)(d:List ByteArray)(i:Int)(o:Int⊕(Unit⊕Bool))(h:AN c d i=some o):AWP (OkS Tryz.prog) wD (qL [0,1,5] [] (IX c d) (qS (qX 0 [] [] (cq)) (qR aN (fun r=>.b r))) o) (IX c d i):=by
 have e:=ZA @IX.eq_1 @cq.eq_1;unfold AN at h;simp only[ZC,IX,wD];obtain⟨a,h⟩|⟨a,h⟩:=aj h
 ·obtain⟨l,j,h⟩:=af h;obtain⟨m,k,h⟩:=af h;obtain⟨g,h⟩|⟨g,h⟩:=aj h
  ·cases h;exact ZL (ZA a (ZA (aO j) (ZA (aO k) g))) @aN.eq_1
  ·cases h;exact ZL (ZA a (ZA (aO j) (ZA (aO k) g))) e
 ·cases h;exact ZL a e
theorem w_eu(c:List ByteArray)(d:List ByteArray){r:Bool}(h:Ka c d=some r):Ok Tryz.prog 116 [.lst .o 1 (c.map AV.z),.lst .o 1 (d.map AV.z)] (.b r):=by
 refine az ba m116 rfl ?_;unfold Ka at h;simp only[ZC,A116,aN,aJ];obtain⟨a,h⟩|⟨a,h⟩:=aj h
 ·cases h;exact ZL a @aN.eq_1
 ·obtain⟨g,i,h⟩:=af h;try refine ZF a ?_
  refine bj (o:=g) (bz de (aD (w_bn c d) i ?_)) (fun k hv=>?_) (fun l hv e τ hne hq=>?_)
  ·exact ZK (ZA @IX.eq_1 @cq.eq_1)
  ·subst hv;simp only[] at h;simp only[ZC,cq,Da];cases h;exact ZL a @aN.eq_1
  ·subst hv;simp only[] at h;obtain⟨rfl,j⟩:=hq;cases h;exact j
theorem w_da(c:ax)(d:ax){r:Bool}(h:zA c d=some r):Ok Tryz.prog 179 [.agg [.i c.A,.i c.B,.i c.N,.i c.F],.agg [.i d.A,.i d.B,.i d.N,.i d.F]] (.b r):=by
 have e:=@aN.eq_1;refine az ba m179 rfl ?_;unfold zA at h;simp only[ZC,A179,aN,aJ];obtain⟨a,h⟩|⟨a,h⟩:=aj h
 ·cases h;exact ZL a e
 ·obtain⟨g,h⟩|⟨g,h⟩:=aj h
  ·cases h;exact ZL (ZA a g) e
  ·obtain⟨j,h⟩|⟨j,h⟩:=aj h
   ·cases h;exact ZL (ZA a (ZA g j)) e
   ·obtain⟨k,h⟩|⟨k,h⟩:=aj h
    ·cases h;exact ZL (ZA a (ZA g (ZA j k))) e
    ·cases h;exact ZL (ZA a (ZA g (ZA j k))) e
def JY(a:List ax)(b:List ax)(v:Int):St:=⟨[(0,.lst .o 4 (a.map (ai .o))),(1,.lst .o 4 (b.map (ai .o))),(5,.i v)],[]⟩
theorem w_bo(a:List ax)(c:List ax)(i:Int)(o:Int⊕(Unit⊕Bool))(h:Bx a c i=some o):AWP (OkS Tryz.prog) wX (qL [0,1,5] [] (JY a c) (qS (qX 0 [] [] (cq)) (qR aN (fun r=>.b r))) o) (JY a c i):=by
 have e:=ZA @JY.eq_1 @cq.eq_1;unfold Bx at h;simp only[ZC,JY,wX];obtain⟨d,h⟩|⟨d,h⟩:=aj h
 ·obtain⟨m,j,h⟩:=af h;obtain⟨p,k,h⟩:=af h;obtain⟨q,l,h⟩:=af h;have f:=ZA d (ZA (aO j) (aO k));refine ZF f ?_;refine ZSG f (w_da _ _ l) ?_;obtain⟨g,h⟩|⟨g,h⟩:=aj h
  ·cases h;exact ZL (ZA f g) @aN.eq_1
  ·cases h;exact ZL (ZA f g) e
 ·cases h;exact ZL d e
theorem w_ev(c:List ax)(d:List ax){r:Bool}(h:Dp c d=some r):Ok Tryz.prog 117 [.lst .o 4 (c.map (ai .o)),.lst .o 4 (d.map (ai .o))] (.b r):=by
 refine az ba m117 rfl ?_;unfold Dp at h;simp only[ZC,A117,aN,aJ];obtain⟨a,h⟩|⟨a,h⟩:=aj h
 ·cases h;exact ZL a @aN.eq_1
 ·obtain⟨g,i,h⟩:=af h;try refine ZF a ?_
  refine bj (o:=g) (bz de (aD (w_bo c d) i ?_)) (fun k hv=>?_) (fun l hv e τ hne hq=>?_)
  ·exact ZK (ZA @JY.eq_1 @cq.eq_1)
  ·subst hv;simp only[] at h;simp only[ZC,cq,Dt];cases h;exact ZL a @aN.eq_1
  ·subst hv;simp only[] at h;obtain⟨rfl,j⟩:=hq;cases h;exact j
theorem w_ew(c:ae)(d:ae){r:Bool}(h:Jw c d=some r):Ok Tryz.prog 37 [.agg [.lst .o 1 (c.N.map AV.z),.lst .o 4 (c.F.map (ai .o))],.agg [.lst .o 1 (d.N.map AV.z),.lst .o 4 (d.F.map (ai .o))]] (.b r):=by
 refine az ba m37 rfl ?_;unfold Jw at h;simp only[ZC,A37,aN,aJ];obtain⟨k,i,h⟩:=af h;refine ZF trivial ?_;refine ZSG trivial (w_eu _ _ i) ?_;obtain⟨a,h⟩|⟨a,h⟩:=aj h
 ·cases h;exact ZL a @aN.eq_1
 ·obtain⟨l,j,h⟩:=af h;refine ZF a ?_;refine ZSG a (w_ev _ _ j) ?_;obtain⟨g,h⟩|⟨g,h⟩:=aj h
  ·cases h;exact ZL (ZA a g) @aN.eq_1
  ·cases h;exact ZL (ZA a g) @aN.eq_1
theorem w_db(c:au)(d:au){r:Bool}(h:Bz c d=some r):Ok Tryz.prog 125 [.agg [.i c.N,.i c.F],.agg [.i d.N,.i d.F]] (.b r):=by
 refine az ba m125 rfl ?_;unfold Bz at h;simp only[ZC,A125,aN,aJ];obtain⟨a,h⟩|⟨a,h⟩:=aj h
 ·cases h;exact ZL a @aN.eq_1
 ·obtain⟨g,h⟩|⟨g,h⟩:=aj h
  ·cases h;exact ZL (ZA a g) @aN.eq_1
  ·cases h;exact ZL (ZA a g) @aN.eq_1
def GI(a:List au)(b:List au)(v:Int):St:=⟨[(0,.lst .o 2 (a.map (ay .o))),(1,.lst .o 2 (b.map (ay .o))),(5,.i v)],[]⟩
theorem w_bp(a:List au)(c:List au)(i:Int)(o:Int⊕(Unit⊕Bool))(h:zr a c i=some o):AWP (OkS Tryz.prog) Fq (qL [0,1,5] [] (GI a c) (qS (qX 0 [] [] (cq)) (qR aN (fun r=>.b r))) o) (GI a c i):=by
 have e:=ZA @GI.eq_1 @cq.eq_1;unfold zr at h;simp only[ZC,GI,Fq];obtain⟨d,h⟩|⟨d,h⟩:=aj h
 ·obtain⟨m,j,h⟩:=af h;obtain⟨p,k,h⟩:=af h;obtain⟨q,l,h⟩:=af h;have f:=ZA d (ZA (aO j) (aO k));refine ZF f ?_;refine ZSG f (w_db _ _ l) ?_;obtain⟨g,h⟩|⟨g,h⟩:=aj h
  ·cases h;exact ZL (ZA f g) @aN.eq_1
  ·cases h;exact ZL (ZA f g) e
 ·cases h;exact ZL d e
theorem w_ex(c:List au)(d:List au){r:Bool}(h:GJ c d=some r):Ok Tryz.prog 49 [.lst .o 2 (c.map (ay .o)),.lst .o 2 (d.map (ay .o))] (.b r):=by
 refine az ba m49 rfl ?_;unfold GJ at h;simp only[ZC,A49,aN,aJ];obtain⟨a,h⟩|⟨a,h⟩:=aj h
 ·cases h;exact ZL a @aN.eq_1
 ·obtain⟨g,i,h⟩:=af h;try refine ZF a ?_
  refine bj (o:=g) (bz de (aD (w_bp c d) i ?_)) (fun k hv=>?_) (fun l hv e τ hne hq=>?_)
  ·exact ZK (ZA @GI.eq_1 @cq.eq_1)
  ·subst hv;simp only[] at h;simp only[ZC,cq,OU];cases h;exact ZL a @aN.eq_1
  ·subst hv;simp only[] at h;obtain⟨rfl,j⟩:=hq;cases h;exact j
def ET(v:Int×ByteArray):St:=⟨[(0,.i v.1),(3,.z v.2)],[]⟩
def yk(v:ByteArray):St:=⟨[(3,.z v)],[]⟩
theorem w_ai(c:Int×ByteArray)(o:(Int×ByteArray)⊕ByteArray)(h:AC c=some o):AWP (OkS Tryz.prog) vY (qL [0,3] [] (ET) (qX 0 [3] [] (yk)) o) (ET c):=by
 have e:=ZA @ET.eq_1 @yk.eq_1;unfold AC at h;simp only[ZC,ET,vY];obtain⟨d,h⟩|⟨d,h⟩:=aj h
 ·obtain⟨p,i,h⟩:=af h;obtain⟨a,b,h⟩:=bh h;have j:Row.arr 1 [(.sc (.int .u8 (IntKind.wrap .u8 (IntKind.wrap .i64 (48+(Int.tmod c.1 10))))):AV)]=Row.arr 1 (a.map AV.u8):=by rw[<-b];rfl
  have g:a.length=1:=by rw[<-b];rfl
  have k:sub (a.map AV.u8) 0 1=a.map AV.u8:=kE _ (by simp[<-b]);obtain⟨q,l,h⟩:=af h;obtain⟨s,m,h⟩:=af h;cases h;exact ZL (ZA d (ZA (aZ i) (ZA j (ZA g (ZA k (ZA (aZ l) (aZ m))))))) (ZA e (ZA b.symm g))
 ·cases h;exact ZL d e
theorem w_cs(b:Int){r:ByteArray}(h:xw b=some r):Ok Tryz.prog 181 [.i b] (.z r):=by
 refine az ba m181 rfl ?_;unfold xw at h;simp only[ZC,A181,bq,aJ];obtain⟨a,h⟩|⟨a,h⟩:=aj h
 ·cases h;exact ZL a @bq.eq_1
 ·obtain⟨g,c,h⟩:=af h;try refine ZF a ?_
  refine aG (bf (aD (w_ai) c ?_)) ?_
  ·exact ZK (ZA @ET.eq_1 @yk.eq_1)
  ·simp only[ZC,yk,DH];obtain⟨j,d,h⟩:=af h;cases h;exact ZL (ZA a (aZ d)) @bq.eq_1
def Hj(v:Int×Int×List ByteArray):St:=⟨[(0,.sl 1000000000 0 v.2.2.length),(1,.i v.1),(5,.i v.2.1)],[(1000000000,.arr 1 (v.2.2.map AV.z))]⟩
def yU(v:Int×List ByteArray):St:=⟨[(1,.i v.1)],[(1000000000,.arr 1 (v.2.map AV.z))]⟩
theorem w_aj(b:Int×Int×List ByteArray)(o:(Int×Int×List ByteArray)⊕(Int×List ByteArray))(h:zD b=some o):AWP (OkS Tryz.prog) pS (qL [0,1,5] [1000000000] (Hj) (qX 0 [1] [1000000000] (yU)) o) (Hj b):=by
 have e:=ZA @Hj.eq_1 @yU.eq_1;unfold zD at h;simp only[ZC,Hj,pS];obtain⟨a,h⟩|⟨a,h⟩:=aj h
 ·obtain⟨d,g,h⟩:=af h;refine ZF a ?_;refine ZSG a (w_cs _ g) ?_;obtain⟨m,i,h⟩:=af h;obtain⟨p,j,h⟩:=af h;obtain⟨k,c,h⟩:=bh h;have l:(b.2.2.map AV.z).set (Int.toNat b.2.1) (.z d)=k.map AV.z:=by rw[<-c,List.map_set]
  cases h;exact ZL (ZA a (ZA (aZ i) (ZA j l))) (ZA e c.symm)
 ·cases h;exact ZL a e
theorem w_ey(b:Int)(a:List ByteArray){r:Int×List ByteArray}(h:FY b a=some r):OkM Tryz.prog 119 [.sl 1000000000 0 a.length,.i b] [(1000000000,.arr 1 (a.map AV.z))] (.i r.1) ([(1000000000,.arr 1 (r.2.map AV.z))]):=by
 refine bw (lr:=[1000000000]) ba Qd rfl rfl ?_;unfold FY at h;simp only[ZC,FF,aN];obtain⟨d,c,h⟩:=af h;try refine ZF trivial ?_
 refine aG (bf (aD (w_aj) c ?_)) ?_
 ·exact ZK (ZA @Hj.eq_1 @yU.eq_1)
 ·simp only[ZC,yU,tN];cases h;exact ZL trivial @aN.eq_1
def Jp(v:Int×Int×List ax):St:=⟨[(0,.sl 1000000000 0 v.2.2.length),(1,.i v.1),(5,.i v.2.1)],[(1000000000,.arr 4 (v.2.2.map (ai .u)))]⟩
def yS(v:Int×List ax):St:=⟨[(1,.i v.1)],[(1000000000,.arr 4 (v.2.map (ai .u)))]⟩
theorem w_ak(a:Int×Int×List ax)(o:(Int×Int×List ax)⊕(Int×List ax))(h:zR a=some o):AWP (OkS Tryz.prog) nL (qL [0,1,5] [1000000000] (Jp) (qX 0 [1] [1000000000] (yS)) o) (Jp a):=by
 have e:=ZA @Jp.eq_1 @yS.eq_1;unfold zR at h;simp only[ZC,Jp,nL];obtain⟨b,h⟩|⟨b,h⟩:=aj h
 ·obtain⟨i1,v,h⟩:=af h;obtain⟨c,w,h⟩:=af h;obtain⟨k,l,h⟩:=bh h;have x:(a.2.2.map (ai .u)).set (Int.toNat a.2.1) (.agg [.i a.1,.i c.B,.i c.N,.i c.F])=k.map (ai .u):=by rw[<-l,List.map_set];rfl
  obtain⟨d,y,h⟩:=af h;obtain⟨m,p,h⟩:=bh h;have z:(k.map (ai .u)).set (Int.toNat a.2.1) (.agg [.i d.A,.i (IntKind.wrap .i64 (a.1+1)),.i d.N,.i d.F])=m.map (ai .u):=by rw[<-p,List.map_set];rfl
  obtain⟨g,a1,h⟩:=af h;obtain⟨q,s,h⟩:=bh h;have b1:(m.map (ai .u)).set (Int.toNat a.2.1) (.agg [.i g.A,.i g.B,.i (IntKind.wrap .i64 ((IntKind.wrap .i64 (a.1+1))+1)),.i g.F])=q.map (ai .u):=by rw[<-s,List.map_set];rfl
  obtain⟨j,c1,h⟩:=af h;obtain⟨d1,t,h⟩:=bh h;have g1:(q.map (ai .u)).set (Int.toNat a.2.1) (.agg [.i j.A,.i j.B,.i j.N,.i (IntKind.wrap .i64 ((IntKind.wrap .i64 ((IntKind.wrap .i64 (a.1+1))+1))+1))])=d1.map (ai .u):=by rw[<-t,List.map_set];rfl
  cases h;exact ZL (ZA b (ZA (aZ v) (ZA w (ZA x (ZA y (ZA z (ZA a1 (ZA b1 (ZA c1 g1))))))))) (ZA e (ZA l.symm (ZA p.symm (ZA s.symm t.symm))))
 ·cases h;exact ZL b e
theorem w_ez(b:Int)(a:List ax){r:Int×List ax}(h:HG b a=some r):OkM Tryz.prog 120 [.sl 1000000000 0 a.length,.i b] [(1000000000,.arr 4 (a.map (ai .u)))] (.i r.1) ([(1000000000,.arr 4 (r.2.map (ai .u)))]):=by
 refine bw (lr:=[1000000000]) ba PR rfl rfl ?_;unfold HG at h;simp only[ZC,Im,aN];obtain⟨d,c,h⟩:=af h;try refine ZF trivial ?_
 refine aG (bf (aD (w_ak) c ?_)) ?_
 ·exact ZK (ZA @Jp.eq_1 @yS.eq_1)
 ·simp only[ZC,yS,sY];cases h;exact ZL trivial @aN.eq_1
theorem w_fa(c:Int)(a:List ByteArray)(b:List ax){r:Int×List ByteArray×List ax}(h:CR c a b=some r):OkM Tryz.prog 39 [.agg [.sl 1000000000 0 a.length,.sl 1000000001 0 b.length],.i c] [(1000000000,.arr 1 (a.map AV.z)),(1000000001,.arr 4 (b.map (ai .u)))] (.i r.1) ([(1000000000,.arr 1 (r.2.1.map AV.z)),(1000000001,.arr 4 (r.2.2.map (ai .u)))]):=by
 refine bw (lr:=[1000000000,1000000001]) ba SS rfl rfl ?_;unfold CR at h;simp only[ZC,OS,aN];obtain⟨j,d,h⟩:=af h;refine ZF trivial ?_;refine ZWG trivial (w_ey _ _ d) [1000000000] [] ?_;obtain⟨k,g,h⟩:=af h;refine ZF trivial ?_;refine ZWG trivial (w_ez _ _ g) [1000000000] [] ?_;cases h;exact ZL trivial @aN.eq_1
def JA(v:Int×Int×List au):St:=⟨[(0,.sl 1000000000 0 v.2.2.length),(1,.i v.1),(5,.i v.2.1)],[(1000000000,.arr 2 (v.2.2.map (ay .u)))]⟩
def yJ(v:Int×List au):St:=⟨[(1,.i v.1)],[(1000000000,.arr 2 (v.2.map (ay .u)))]⟩
theorem w_al(a:Int×Int×List au)(o:(Int×Int×List au)⊕(Int×List au))(h:BB a=some o):AWP (OkS Tryz.prog) rS (qL [0,1,5] [1000000000] (JA) (qX 0 [1] [1000000000] (yJ)) o) (JA a):=by
 have e:=ZA @JA.eq_1 @yJ.eq_1;unfold BB at h;simp only[ZC,JA,rS];obtain⟨b,h⟩|⟨b,h⟩:=aj h
 ·obtain⟨v,j,h⟩:=af h;obtain⟨k,l,h⟩:=af h;obtain⟨c,d,h⟩:=bh h;have m:(a.2.2.map (ay .u)).set (Int.toNat a.2.1) (.agg [.i a.1,.i k.F])=c.map (ay .u):=by rw[<-d,List.map_set];rfl
  obtain⟨p,q,h⟩:=af h;obtain⟨s,g,h⟩:=bh h;have t:(c.map (ay .u)).set (Int.toNat a.2.1) (.agg [.i p.N,.i (IntKind.wrap .i64 (a.1+1))])=s.map (ay .u):=by rw[<-g,List.map_set];rfl
  cases h;exact ZL (ZA b (ZA (aZ j) (ZA l (ZA m (ZA q t))))) (ZA e (ZA d.symm g.symm))
 ·cases h;exact ZL b e
theorem w_fb(b:Int)(a:List au){r:Int×List au}(h:Hg b a=some r):OkM Tryz.prog 50 [.sl 1000000000 0 a.length,.i b] [(1000000000,.arr 2 (a.map (ay .u)))] (.i r.1) ([(1000000000,.arr 2 (r.2.map (ay .u)))]):=by
 refine bw (lr:=[1000000000]) ba Sj rfl rfl ?_;unfold Hg at h;simp only[ZC,OB,aN];obtain⟨d,c,h⟩:=af h;try refine ZF trivial ?_
 refine aG (bf (aD (w_al) c ?_)) ?_
 ·exact ZK (ZA @JA.eq_1 @yJ.eq_1)
 ·simp only[ZC,yJ,yE];cases h;exact ZL trivial @aN.eq_1
def II(v:Int×Int×List Int):St:=⟨[(0,.sl 1000000000 0 v.2.2.length),(1,.i v.1),(5,.i v.2.1)],[(1000000000,.arr 1 (v.2.2.map AV.i))]⟩
def yr(v:Int×List Int):St:=⟨[(1,.i v.1)],[(1000000000,.arr 1 (v.2.map AV.i))]⟩
theorem w_am(a:Int×Int×List Int)(o:(Int×Int×List Int)⊕(Int×List Int))(h:Cw a=some o):AWP (OkS Tryz.prog) sg (qL [0,1,5] [1000000000] (II) (qX 0 [1] [1000000000] (yr)) o) (II a):=by
 have e:=ZA @II.eq_1 @yr.eq_1;unfold Cw at h;simp only[ZC,II,sg];obtain⟨b,h⟩|⟨b,h⟩:=aj h
 ·obtain⟨l,d,h⟩:=af h;obtain⟨m,g,h⟩:=af h;obtain⟨j,c,h⟩:=bh h;have k:(a.2.2.map AV.i).set (Int.toNat a.2.1) (.i a.1)=j.map AV.i:=by rw[<-c,List.map_set]
  cases h;exact ZL (ZA b (ZA (aZ d) (ZA g k))) (ZA e c.symm)
 ·cases h;exact ZL b e
theorem w_fc(b:Int)(a:List Int){r:Int×List Int}(h:Ii b a=some r):OkM Tryz.prog 41 [.sl 1000000000 0 a.length,.i b] [(1000000000,.arr 1 (a.map AV.i))] (.i r.1) ([(1000000000,.arr 1 (r.2.map AV.i))]):=by
 refine bw (lr:=[1000000000]) ba SL rfl rfl ?_;unfold Ii at h;simp only[ZC,OM,aN];obtain⟨d,c,h⟩:=af h;try refine ZF trivial ?_
 refine aG (bf (aD (w_am) c ?_)) ?_
 ·exact ZK (ZA @II.eq_1 @yr.eq_1)
 ·simp only[ZC,yr,xU];cases h;exact ZL trivial @aN.eq_1
theorem w_ct(b:Int)(c:Int)(a:List Int){r:Int×List Int}(h:zK b c a=some r):OkM Tryz.prog 51 [.agg [.i b,.sl 1000000000 0 a.length],.i c] [(1000000000,.arr 1 (a.map AV.i))] (.i r.1) ([(1000000000,.arr 1 (r.2.map AV.i))]):=by
 refine bw (lr:=[1000000000]) ba Sy rfl rfl ?_;unfold zK at h;simp only[ZC,OL,aN];obtain⟨g,d,h⟩:=af h;refine ZF trivial ?_;refine ZWG trivial (w_fc _ _ d) [1000000000] [] ?_;cases h;exact ZL trivial @aN.eq_1
def DG(a:List Int)(v:Int×Int):St:=⟨[(0,.lst .o 1 (a.map AV.i)),(1,.i v.1),(5,.i v.2)],[]⟩
theorem w_bq(b:List Int)(d:Int×Int)(o:(Int×Int)⊕(Int⊕Int))(h:Aj b d=some o):AWP (OkS Tryz.prog) GE (qL [0,1,5] [] (DG b) (qS (qX 0 [1] [] (tR)) (qR aN (fun r=>.i r))) o) (DG b d):=by
 have e:=ZA @DG.eq_1 @tR.eq_1;unfold Aj at h;simp only[ZC,DG,GE];obtain⟨a,h⟩|⟨a,h⟩:=aj h
 ·obtain⟨j,g,h⟩:=af h;obtain⟨c,h⟩|⟨c,h⟩:=aj h
  ·cases h;exact ZL (ZA a (ZA (aO g) c)) @aN.eq_1
  ·cases h;exact ZL (ZA a (ZA (aO g) c)) e
 ·cases h;exact ZL a e
theorem w_dc(a:List Int)(b:Int){r:Int}(h:AX a b=some r):Ok Tryz.prog 42 [.lst .o 1 (a.map AV.i),.i b] (.i r):=by
 refine az ba m42 rfl ?_;unfold AX at h;simp only[ZC,A42,aN,aJ];obtain⟨c,d,h⟩:=af h;try refine ZF trivial ?_
 refine bj (o:=c) (bz de (aD (w_bq a) d ?_)) (fun j hv=>?_) (fun k hv e τ hne hq=>?_)
 ·exact ZK (ZA @DG.eq_1 @tR.eq_1)
 ·subst hv;simp only[] at h;simp only[ZC,tR,OV];cases h;exact ZL trivial @aN.eq_1
 ·subst hv;simp only[] at h;obtain⟨rfl,g⟩:=hq;cases h;exact g
theorem MT(a:ah)(c:Int){r:Int}(h:pV a c=some r):Ok Tryz.prog 52 [.agg [.i a.N,.lst .o 1 (a.F.map AV.i)],.i c] (.i r):=by
 refine az ba m52 rfl ?_;unfold pV at h;simp only[ZC,A52,aN,aJ];obtain⟨g,d,h⟩:=af h;refine ZF trivial ?_;refine ZSG trivial (w_dc _ _ d) ?_;obtain⟨b,h⟩|⟨b,h⟩:=aj h
 ·cases h;exact ZL b @aN.eq_1
 ·cases h;exact ZL b @aN.eq_1
theorem w_fg(g:ae)(k:List au)(c:aI){r:Bool}(h:Ma g k c=some r):Ok Tryz.prog 6 [.agg [.lst .o 1 (g.N.map AV.z),.lst .o 4 (g.F.map (ai .o))],.lst .o 2 (k.map (ay .o)),.agg [.i c.N,.i c.L,.i c.F,.i c.P]] (.b r):=by
 have e:=@cQ.eq_1;refine az ba m6 rfl ?_;unfold Ma at h;simp only[ZC,A6,cQ,aJ];obtain⟨b4,w1,h⟩:=af h;refine ZF trivial ?_;refine ZSG trivial (w_dk _ _ w1) ?_;obtain⟨j,h⟩|⟨j,h⟩:=aj h
 ·cases h;exact ZL j e
 ·obtain⟨c4,y1,h⟩:=af h;refine ZF j ?_;refine ZSG j (w_dl _ _ y1) ?_;obtain⟨t,h⟩|⟨t,h⟩:=aj h
  ·cases h;exact ZL (ZA j t) e
  ·obtain⟨d4,z1,h⟩:=af h;have f:=ZA j t;refine ZF f ?_;refine ZUG f (Mo _ z1) ?_;obtain⟨g4,a2,h⟩:=af h;refine ZF f ?_;refine ZUG f (NR _ a2) ?_;obtain⟨i4,b2,h⟩:=af h;refine ZF f ?_;refine ZUG f (Pt _ b2) ?_;obtain⟨d,c2,h⟩:=af h;refine ZF f ?_;refine ZWG f (w_cm _ _ _ _ c2) [1000000002] [] ?_;obtain⟨l,d2,h⟩:=af h;refine ZF f ?_;refine ZUG f (Mo _ d2) ?_;obtain⟨u1,g2,h⟩:=af h;refine ZF f ?_;refine ZUG f (NR _ g2) ?_;obtain⟨j4,i2,h⟩:=af h;refine ZF f ?_;refine ZUG f (Pt _ i2) ?_;obtain⟨a,j2,h⟩:=af h;refine ZF f ?_;refine ZUG f (w_cf _ _ _ j2) ?_;obtain⟨k2,l2,h⟩:=af h;try refine ZF f ?_
   refine aG (sh:=(fun v=>⟨[(1,.lst .o 2 (k.map (ay .o))),(3,.pt 3 0 0),(5,.pt 5 0 0),(8,.pt 8 0 0),(9,.pt 9 0 0),(10,.b d.2.2.1),(11,.pt 11 0 0),(12,.sl 12 0 u1.length),(13,.pt 13 0 0),(14,.pt 14 0 0),(15,.b a.2.2),(70,.b v)],[(3,.var (.agg [.lst .o 1 (g.N.map AV.z),.lst .o 4 (g.F.map (ai .o))])),(5,.var (.agg [.i c.N,.i c.L,.i c.F,.i c.P])),(8,.var (.agg [.i ((d.1).N),.lst .m 1 (((d.1).F).map AV.i)])),(9,.var (.agg [.i ((d.2.1).N),.lst .m 1 (((d.2.1).F).map AV.i)])),(11,.var (.agg [.sl 44 0 l.N.length,.sl 1044 0 l.F.length])),(12,.arr 2 (u1.map (ay .u))),(13,.var (.agg [.i a.1.N,.sl 52 0 a.1.F.length])),(14,.var (.agg [.i a.2.1.N,.sl 1052 0 a.2.1.F.length])),(44,.arr 1 (l.N.map AV.z)),(52,.arr 1 (a.1.F.map AV.i)),(1044,.arr 4 (l.F.map (ai .u))),(1052,.arr 1 (a.2.1.F.map AV.i))]⟩)) (s:=k2) ?_ ?_
   ·replace h:=l2;obtain⟨k4,m2,h⟩:=af h;refine ZF f ?_;refine ZSG f (zO _ _ m2) ?_;obtain⟨w,h⟩|⟨w,h⟩:=aj h
    ·cases h;exact ZL (ZA f w) trivial
    ·obtain⟨l4,p2,h⟩:=af h;have f:=ZA f w;refine ZF f ?_;refine ZSG f (zO _ _ p2) ?_;obtain⟨x,h⟩|⟨x,h⟩:=aj h
     ·cases h;exact ZL (ZA f x) trivial
     ·cases h;exact ZL (ZA f x) trivial
   ·simp only[ZC,A6R1];obtain⟨y,h⟩|⟨y,h⟩:=aj h
    ·cases h;exact ZL (ZA f y) e
    ·obtain⟨m4,q2,h⟩:=af h;have f:=ZA f y;refine ZF f ?_;refine ZUG f (Mo _ q2) ?_;obtain⟨p4,s2,h⟩:=af h;refine ZF f ?_;refine ZSG f (w_ew _ _ s2) ?_;obtain⟨a1,h⟩|⟨a1,h⟩:=aj h
     ·cases h;exact ZL (ZA f a1) e
     ·obtain⟨q4,t2,h⟩:=af h;have f:=ZA f a1;refine ZF f ?_;refine ZUG f (NR _ t2) ?_;obtain⟨s4,u2,h⟩:=af h;refine ZF f ?_;refine ZSG f (w_ex _ _ u2) ?_;obtain⟨b1,h⟩|⟨b1,h⟩:=aj h
      ·cases h;exact ZL (ZA f b1) e
      ·obtain⟨t4,v2,h⟩:=af h;have f:=ZA f b1;refine ZF f ?_;refine ZWG f (w_fa _ _ _ v2) [1000000000,1000000001] [] ?_;obtain⟨u4,w2,h⟩:=af h;refine ZF f ?_;refine ZWG f (w_fb _ _ w2) [1000000000] [] ?_;obtain⟨x2,y2,h⟩:=af h;try refine ZF f ?_
       refine aG (sh:=(fun v=>⟨[(1,.lst .o 2 (k.map (ay .o))),(3,.pt 3 0 0),(5,.pt 5 0 0),(8,.pt 8 0 0),(9,.pt 9 0 0),(10,.b d.2.2.1),(13,.pt 13 0 0),(14,.pt 14 0 0),(105,.b v)],[(3,.var (.agg [.lst .o 1 (g.N.map AV.z),.lst .o 4 (g.F.map (ai .o))])),(5,.var (.agg [.i c.N,.i c.L,.i c.F,.i c.P])),(8,.var (.agg [.i ((d.1).N),.lst .m 1 (((d.1).F).map AV.i)])),(9,.var (.agg [.i ((d.2.1).N),.lst .m 1 (((d.2.1).F).map AV.i)])),(13,.var (.agg [.i a.1.N,.sl 52 0 a.1.F.length])),(14,.var (.agg [.i a.2.1.N,.sl 1052 0 a.2.1.F.length])),(52,.arr 1 (a.1.F.map AV.i)),(1052,.arr 1 (a.2.1.F.map AV.i))]⟩)) (s:=x2) ?_ ?_
       ·replace h:=y2;obtain⟨c1,h⟩|⟨c1,h⟩:=aj h
        ·cases h;exact ZL (ZA f c1) trivial
        ·obtain⟨v4,z2,h⟩:=af h;have f:=ZA f c1;refine ZF f ?_;refine ZSG f (zO _ _ z2) ?_;obtain⟨d1,h⟩|⟨d1,h⟩:=aj h
         ·cases h;exact ZL (ZA f d1) trivial
         ·obtain⟨w4,a3,h⟩:=af h;have f:=ZA f d1;refine ZF f ?_;refine ZSG f (zO _ _ a3) ?_;obtain⟨g1,h⟩|⟨g1,h⟩:=aj h
          ·cases h;exact ZL (ZA f g1) trivial
          ·cases h;exact ZL (ZA f g1) trivial
       ·simp only[ZC,A6R2];obtain⟨i1,h⟩|⟨i1,h⟩:=aj h
        ·cases h;exact ZL (ZA f i1) e
        ·obtain⟨v1,b3,h⟩:=af h;have f:=ZA f i1;refine ZF f ?_;refine ZWG f (w_ct _ _ _ b3) [1000000000] [] ?_;obtain⟨j1,c3,h⟩:=af h;refine ZF f ?_;refine ZWG f (w_ct _ _ _ c3) [1000000000] [] ?_;obtain⟨d3,g3,h⟩:=bh h;have i3:sub (v1.2.map AV.i) 0 a.1.F.length=d3.map AV.i:=by rw[eX,g3]
         obtain⟨x4,j3,h⟩:=af h;have f:=ZA f i3;refine ZF f ?_;refine ZSG f (MT _ _ j3) ?_;obtain⟨k1,h⟩|⟨k1,h⟩:=aj h
         ·cases h;exact ZL (ZA f k1) e
         ·obtain⟨k3,l3,h⟩:=bh h;have m3:sub (j1.2.map AV.i) 0 a.2.1.F.length=k3.map AV.i:=by rw[eX,l3]
          obtain⟨y4,p3,h⟩:=af h;have f:=ZA f (ZA k1 m3);refine ZF f ?_;refine ZSG f (MT _ _ p3) ?_;obtain⟨p,h⟩|⟨p,h⟩:=aj h
          ·cases h;exact ZL (ZA f p) e
          ·obtain⟨l1,h⟩|⟨l1,h⟩:=aj h
           ·cases h;exact ZL (ZA f (ZA p l1)) e
           ·obtain⟨z4,q3,h⟩:=af h;have f:=ZA f (ZA p l1);refine ZF f ?_;refine ZUG f (Mo _ q3) ?_;obtain⟨a5,s3,h⟩:=af h;refine ZF f ?_;refine ZUG f (NR _ s3) ?_;obtain⟨b5,t3,h⟩:=af h;refine ZF f ?_;refine ZUG f (Pt _ t3) ?_;obtain⟨c5,u3,h⟩:=af h;refine ZF f ?_;refine ZUG f (w_cf _ _ _ u3) ?_;obtain⟨v3,w3,h⟩:=af h;try refine ZF f ?_
            refine aG (sh:=(fun v=>⟨[(13,.pt 13 0 0),(14,.pt 14 0 0),(17,.i j1.1),(150,.b v)],[(13,.var (.agg [.i a.1.N,.sl 52 0 a.1.F.length])),(14,.var (.agg [.i a.2.1.N,.sl 1052 0 a.2.1.F.length])),(52,.arr 1 (v1.2.map AV.i)),(1052,.arr 1 (j1.2.map AV.i))]⟩)) (s:=v3) ?_ ?_
            ·replace h:=w3;obtain⟨d5,x3,h⟩:=af h;refine ZF f ?_;refine ZSG f (zO _ _ x3) ?_;obtain⟨m1,h⟩|⟨m1,h⟩:=aj h
             ·cases h;exact ZL (ZA f m1) trivial
             ·obtain⟨g5,y3,h⟩:=af h;have f:=ZA f m1;refine ZF f ?_;refine ZSG f (zO _ _ y3) ?_;obtain⟨p1,h⟩|⟨p1,h⟩:=aj h
              ·cases h;exact ZL (ZA f p1) trivial
              ·cases h;exact ZL (ZA f p1) trivial
            ·simp only[ZC,A6R3];obtain⟨q1,h⟩|⟨q1,h⟩:=aj h
             ·cases h;exact ZL (ZA f q1) e
             ·obtain⟨i5,z3,h⟩:=af h;have f:=ZA f q1;refine ZF f ?_;refine ZSG f (MT _ _ z3) ?_;obtain⟨s1,h⟩|⟨s1,h⟩:=aj h
              ·cases h;exact ZL (ZA f s1) e
              ·obtain⟨j5,a4,h⟩:=af h;have f:=ZA f s1;refine ZF f ?_;refine ZSG f (MT _ _ a4) ?_;obtain⟨q,h⟩|⟨q,h⟩:=aj h
               ·cases h;exact ZL (ZA f q) e
               ·obtain⟨t1,h⟩|⟨t1,h⟩:=aj h
                ·cases h;exact ZL (ZA f (ZA q t1)) e
                ·cases h;exact ZL (ZA f (ZA q t1)) e
end Vs

