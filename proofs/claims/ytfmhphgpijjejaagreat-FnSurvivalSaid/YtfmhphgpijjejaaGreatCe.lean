/-
  Part of the proof that the law FnSurvival returns true at every input; no condition beside the row's own.
-/
import Derived.Test.YtfmhphgpijjejaaGreatCb
set_option linter.defProp false
set_option linter.unusedSimpArgs false
set_option linter.unusedVariables false
set_option maxHeartbeats 1000000
set_option maxRecDepth 8000
namespace Vs
open Go Go.Proofs
attribute [local irreducible] AWP dS eff sD fB callM
theorem w_gm(q:ax){r:ah×Nat×Nat×List af×ax}(h:IY q=some r):OkM Tryz.prog 82 [.pt 1000000000 0 0] [(1000000000,.var (.agg [.lst .o 1 (((q).code).map AV.u8),.i ((q).atF),.sc (.int .u64 ((q).seed))]))] (.tup [.agg [.lst .m 1 (((r.1).Nodes).map AV.z),.lst .m 4 (((r.1).Fibers).map (ai .m))],.sl 3 r.2.1 r.2.2.1]) ([(3,.arr 10 (r.2.2.2.1.map (aj .m))),(1000000000,.var (.agg [.lst .o 1 (((r.2.2.2.2).code).map AV.u8),.i ((r.2.2.2.2).atF),.sc (.int .u64 ((r.2.2.2.2).seed))]))]):=by
 refine aZ (lr:=[3,1000000000]) bd Wh rfl rfl ?_;unfold IY at h;simp only[ZC,SD,kC];obtain⟨w,m1,h⟩:=ae h;refine ZF trivial ?_;refine ZWG trivial (w_gj _ m1) [3,1000000000] [1100003] ?_;obtain⟨l,h⟩|⟨l,h⟩:=aq h
 ·cases h;exact ZL l @kC.eq_1
 ·obtain⟨d1,p1,h⟩:=ae h;refine ZF l ?_;refine ZWG l (w_b _ _ p1) [1000000000] [] ?_;obtain⟨x2,q1,h⟩:=ae h;obtain⟨b,s1,h⟩:=ae h;obtain⟨a,t1,h⟩:=ae h;have f:=ZA l (ZA (aI q1) s1);try refine ZF f ?_
  refine aw (sh:=(fun v=>⟨[(2,.pt 2 0 0),(4,.pt 4 0 0),(5,.sl 5 v.1 v.2.1),(6,.i d1.1),(7,.pt 7 0 0)],[(2,.var (.agg [.lst .u 1 [],.lst .u 4 []])),(4,.var (.agg [.lst .m 1 (((v.2.2.1).Nodes).map AV.z),.lst .m 4 (((v.2.2.1).Fibers).map (ai .m))])),(5,.arr 10 (v.2.2.2.1.map (aj .m))),(7,.var (.agg [.i ((v.2.2.2.2.1).Id),.i ((v.2.2.2.2.1).Class),.i (((v.2.2.2.2.1).Work).Start),.lst .m 1 ((((v.2.2.2.2.1).Work).Fibers).map AV.i),.i (((v.2.2.2.2.1).WorkBlock).First),.i (((v.2.2.2.2.1).WorkBlock).Count),.i (((v.2.2.2.2.1).Spare).Start),.lst .m 1 ((((v.2.2.2.2.1).Spare).Fibers).map AV.i),.i (((v.2.2.2.2.1).SpareBlock).First),.i (((v.2.2.2.2.1).SpareBlock).Count)])),(1000000000,.var (.agg [.lst .o 1 (((v.2.2.2.2.2).code).map AV.u8),.i ((v.2.2.2.2.2).atF),.sc (.int .u64 ((v.2.2.2.2.2).seed))]))]⟩)) (s:=a) ?_ ?_
  ·replace h:=t1;obtain⟨y2,u1,h⟩:=ae h;refine ZF f ?_;refine ZWG f (w_b _ _ u1) [1000000000] [] ?_;obtain⟨c,h⟩|⟨c,h⟩:=aq h
   ·obtain⟨g1,x,h⟩:=aO h;have v1:Row.arr 1 [(.i 0:AV),(.i 999:AV),(.i 1000:AV),(.i 500:AV),(.i 1:AV)]=Row.arr 1 (g1.map AV.i):=by rw[<-x];rfl
    have i1:g1.length=5:=by rw[<-x];rfl
    obtain⟨z2,w1,h⟩:=ae h;have f:=ZA f (ZA c (ZA v1 i1));refine ZF f ?_;refine ZWG f (w_r _ _ w1) [1000000000,1000000001] [] ?_;cases h;exact ZL f (ZA x.symm i1)
   ·obtain⟨d,h⟩|⟨d,h⟩:=aq h
    ·obtain⟨a3,x1,h⟩:=ae h;have f:=ZA f (ZA c d);refine ZF f ?_;refine ZWG f (w_b _ _ x1) [1000000000] [] ?_;cases h;exact ZL f trivial
    ·obtain⟨g,h⟩|⟨g,h⟩:=aq h
     ·obtain⟨b3,y1,h⟩:=ae h;have f:=ZA f (ZA c (ZA d g));refine ZF f ?_;refine ZWG f (w_eh _ _ y1) [500000257,1000000000] [504500257] ?_;cases h;exact ZL f trivial
     ·obtain⟨j,h⟩|⟨j,h⟩:=aq h
      ·obtain⟨c3,z1,h⟩:=ae h;have f:=ZA f (ZA c (ZA d (ZA g j)));refine ZF f ?_;refine ZWG f (w_ei _ z1) [1000000000] [] ?_;cases h;exact ZL f trivial
      ·obtain⟨k,h⟩|⟨k,h⟩:=aq h
       ·obtain⟨d3,a2,h⟩:=ae h;have f:=ZA f (ZA c (ZA d (ZA g (ZA j k))));refine ZF f ?_;refine ZWG f (w_eh _ _ a2) [500000257,1000000000] [505600257] ?_;cases h;exact ZL f trivial
       ·obtain⟨p,h⟩|⟨p,h⟩:=aq h
        ·obtain⟨g3,b2,h⟩:=ae h;have f:=ZA f (ZA c (ZA d (ZA g (ZA j (ZA k p)))));refine ZF f ?_;refine ZWG f (w_ei _ b2) [1000000000] [] ?_;cases h;exact ZL f trivial
        ·obtain⟨t,h⟩|⟨t,h⟩:=aq h
         ·obtain⟨y,a1,h⟩:=aO h;have c2:Row.arr 10 [(.agg [.i b.Id,.i b.Class,.i b.Work.Start,.lst .m 1 (b.Work.Fibers.map AV.i),.i b.WorkBlock.First,.i b.WorkBlock.Count,.i b.Spare.Start,.lst .m 1 (b.Spare.Fibers.map AV.i),.i b.SpareBlock.First,.i b.SpareBlock.Count]:AV)]=Row.arr 10 (y.map (aj .m)):=by rw[<-a1];rfl
          have j1:y.length=1:=by rw[<-a1];rfl
          obtain⟨k1,d2,h⟩:=aO h;have g2:sub (w.2.2.2.1.map (aj .m)) w.2.1 w.2.2.1=k1.map (aj .m):=by rw[bP,d2]
          obtain⟨i3,i2,h⟩:=ae h;obtain⟨j2,k2,h⟩:=aO h;have l2:k1.map (aj .m)++y.map (aj .m)=j2.map (aj .m):=by rw[<-k2,List.map_append]
          cases h;exact ZL (ZA f (ZA c (ZA d (ZA g (ZA j (ZA k (ZA p (ZA t (ZA c2 (ZA j1 (ZA g2 (ZA (aI i2) l2)))))))))))) (ZA a1.symm j1)
         ·obtain⟨b1,h⟩|⟨b1,h⟩:=aq h
          ·obtain⟨c1,m2,h⟩:=ae h;have f:=ZA f (ZA c (ZA d (ZA g (ZA j (ZA k (ZA p (ZA t b1)))))));refine ZF f ?_;refine ZWG f (w_gf _ m2) [500000128,500000129,1000000000] [507200128,507200129] ?_;obtain⟨p2,q2,h⟩:=aO h;have s2:sub (c1.2.2.1.map AV.z) c1.1 c1.2.1=p2.map AV.z:=by rw[bP,q2]
           cases h;exact ZL (ZA f s2) trivial
          ·cases h;exact ZL (ZA f (ZA c (ZA d (ZA g (ZA j (ZA k (ZA p (ZA t b1)))))))) trivial
  ·simp only[ZC,zo];obtain⟨j3,t2,h⟩:=ae h;obtain⟨k3,u2,h⟩:=ae h;obtain⟨v2,l1,h⟩:=aO h;have w2:(a.2.2.2.1.map (aj .m)).set (a.1+(Int.toNat d1.1)) (.agg [.i ((a.2.2.2.2.1).Id),.i ((a.2.2.2.2.1).Class),.i (((a.2.2.2.2.1).Work).Start),.lst .m 1 ((((a.2.2.2.2.1).Work).Fibers).map AV.i),.i (((a.2.2.2.2.1).WorkBlock).First),.i (((a.2.2.2.2.1).WorkBlock).Count),.i (((a.2.2.2.2.1).Spare).Start),.lst .m 1 ((((a.2.2.2.2.1).Spare).Fibers).map AV.i),.i (((a.2.2.2.2.1).SpareBlock).First),.i (((a.2.2.2.2.1).SpareBlock).Count)])=v2.map (aj .m):=by rw[<-l1,List.map_set];rfl
   cases h;exact ZL (ZA f (ZA (aI t2) (ZA u2 w2))) (ZA @kC.eq_1 l1.symm)
def S_l(b:ah)(a:Int×List (List Int))(v:Int):St:=⟨[(1,.pt 1 0 0),(3,.sl 3 0 a.2.length),(4,.i a.1),(5,.i v)],[(1,.var (.agg [.lst .o 1 (b.Nodes.map AV.z),.lst .o 4 (b.Fibers.map (ai .o))])),(3,.arr 1 (a.2.map (bI .u)))]⟩
def Oe(a:ah)(b:Int×List (List Int))(v:List (List Int)):St:=⟨[(1,.pt 1 0 0),(3,.sl 3 0 v.length),(4,.i b.1)],[(1,.var (.agg [.lst .o 1 (a.Nodes.map AV.z),.lst .o 4 (a.Fibers.map (ai .o))])),(3,.arr 1 (v.map (bI .u)))]⟩
theorem w_l(b:ah)(a:Int×List (List Int))(l:Int)(o:Int⊕(List (List Int)))(h:M_l b a l=some o):AWP (OkS Tryz.prog) xt (qL [1,3,4,5] [1,3] (S_l b a) (qX 2 [1,3,4] [1,3] (Oe b a)) o) (S_l b a l):=by
 have e:=ZA @S_l.eq_1 @Oe.eq_1;unfold M_l at h;simp only[ZC,S_l,xt];obtain⟨c,h⟩|⟨c,h⟩:=aq h
 ·obtain⟨a1,m,h⟩:=ae h;obtain⟨g,h⟩|⟨g,h⟩:=aq h
  ·obtain⟨v,w,h⟩:=ae h;have f:=ZA c (ZA (aM m) g);refine ZF f ?_;refine ZUG f (w_cu _ _ w) ?_;obtain⟨j,d,h⟩:=aO h;have x:Row.arr 1 [(.lst .u 1 (v.map AV.i):AV)]=Row.arr 1 (j.map (bI .u)):=by rw[<-d];rfl
   have p:j.length=1:=by rw[<-d];rfl
   obtain⟨b1,y,h⟩:=ae h;have q:=aI y;obtain⟨s,k,h⟩:=aO h;have z:a.2.map (bI .u)++j.map (bI .u)=s.map (bI .u):=by rw[<-k,List.map_append]
   have t:a.2.length+1=s.length:=by simp[<-d,<-k]<;>omega
   rw[t] at q;cases h;exact ZL (ZA f (ZA x (ZA p (ZA q (ZA z t))))) (ZA e (ZA d.symm (ZA k.symm p)))
  ·cases h;exact ZL (ZA c (ZA (aM m) g)) e
 ·cases h;exact ZL c e
def S_e(a:ah)(v:Int×List (List Int)):St:=⟨[(1,.pt 1 0 0),(3,.sl 3 0 v.2.length),(4,.i v.1)],[(1,.var (.agg [.lst .o 1 (a.Nodes.map AV.z),.lst .o 4 (a.Fibers.map (ai .o))])),(3,.arr 1 (v.2.map (bI .u)))]⟩
def ur(a:ah)(v:List (List Int)):St:=⟨[(1,.pt 1 0 0),(3,.sl 3 0 v.length)],[(1,.var (.agg [.lst .o 1 (a.Nodes.map AV.z),.lst .o 4 (a.Fibers.map (ai .o))])),(3,.arr 1 (v.map (bI .u)))]⟩
theorem w_e(a:ah)(b:Int×List (List Int))(o:(Int×List (List Int))⊕(List (List Int)))(h:M_e a b=some o):AWP (OkS Tryz.prog) wl (qL [1,3,4] [1,3] (S_e a) (qX 0 [1,3] [1,3] (ur a)) o) (S_e a b):=by
 have e:=ZA @S_e.eq_1 @ur.eq_1;unfold M_e at h;simp only[ZC,S_e,wl];obtain⟨c,h⟩|⟨c,h⟩:=aq h
 ·obtain⟨j,k,h⟩:=ae h;try refine ZF c ?_
  refine aw (sh:=(fun v=>⟨[(1,.pt 1 0 0),(3,.sl 3 0 v.length),(4,.i b.1)],[(1,.var (.agg [.lst .o 1 (a.Nodes.map AV.z),.lst .o 4 (a.Fibers.map (ai .o))])),(3,.arr 1 (v.map (bI .u)))]⟩)) (s:=j) ?_ ?_
  ·replace h:=k;obtain⟨l,d,h⟩:=ae h;try refine ZF c ?_
   first|refine cK (aY (aC (w_l a b) d ?_)) (fun τ g=>?_)|refine dx (aC (w_l a b) d ?_) (fun τ g=>?_)
   ·exact ZK (ZA @S_l.eq_1 @Oe.eq_1)
   ·cases h;try refine ZF trivial ?_
    refine⟨rfl,Shp.sub g (by decide) (by decide) ?_⟩;exact ZK @Oe.eq_1
  ·simp only[ZC,Ld];cases h;exact ZL c e
 ·cases h;exact ZL c e
def S_k(a:ah)(v:Int×List (List Int)):St:=⟨[(1,.pt 1 0 0),(3,.sl 3 0 v.2.length),(6,.i v.1)],[(1,.var (.agg [.lst .o 1 (a.Nodes.map AV.z),.lst .o 4 (a.Fibers.map (ai .o))])),(3,.arr 1 (v.2.map (bI .u)))]⟩
def tG(v:List (List Int)):St:=⟨[(3,.sl 3 0 v.length)],[(3,.arr 1 (v.map (bI .u)))]⟩
theorem w_k(j:ah)(a:Int×List (List Int))(o:(Int×List (List Int))⊕(List (List Int)))(h:M_k j a=some o):AWP (OkS Tryz.prog) wm (qL [1,3,6] [1,3] (S_k j) (qX 4 [3] [3] (tG)) o) (S_k j a):=by
 have e:=ZA @S_k.eq_1 @tG.eq_1;unfold M_k at h;simp only[ZC,S_k,wm];obtain⟨d,h⟩|⟨d,h⟩:=aq h
 ·obtain⟨c1,p,h⟩:=ae h;obtain⟨k,h⟩|⟨k,h⟩:=aq h
  ·obtain⟨b,c,h⟩:=aO h;have x:Row.arr 1 [(.i a.1:AV)]=Row.arr 1 (b.map AV.i):=by rw[<-c];rfl
   have q:b.length=1:=by rw[<-c];rfl
   have y:sub (b.map AV.i) 0 1=b.map AV.i:=yp _ (by simp[<-c]);obtain⟨l,g,h⟩:=aO h;have z:Row.arr 1 [(.lst .u 1 (b.map AV.i):AV)]=Row.arr 1 (l.map (bI .u)):=by rw[<-g];rfl
   have s:l.length=1:=by rw[<-g];rfl
   obtain⟨d1,a1,h⟩:=ae h;have t:=aI a1;obtain⟨v,m,h⟩:=aO h;have b1:a.2.map (bI .u)++l.map (bI .u)=v.map (bI .u):=by rw[<-m,List.map_append]
   have w:a.2.length+1=v.length:=by simp[<-c,<-g,<-m]<;>omega
   rw[w] at t;cases h;exact ZL (ZA d (ZA (aM p) (ZA k (ZA x (ZA q (ZA y (ZA z (ZA s (ZA t (ZA b1 w)))))))))) (ZA e (ZA c.symm (ZA g.symm (ZA m.symm (ZA q s)))))
  ·cases h;exact ZL (ZA d (ZA (aM p) k)) e
 ·cases h;exact ZL d e
theorem VD(a:ah){r:List (List Int)}(h:sT a=some r):Ok Tryz.prog 128 [.agg [.lst .o 1 (a.Nodes.map AV.z),.lst .o 4 (a.Fibers.map (ai .o))]] (.lst .u 1 (r.map (bI .u))):=by
 refine aA bd m128 rfl ?_;unfold sT at h;simp only[ZC,A128,V10,aJ];obtain⟨d,b,h⟩:=ae h;try refine ZF trivial ?_
 refine aw (aY (aC (w_e a) b ?_)) ?_
 ·exact ZK (ZA @S_e.eq_1 @ur.eq_1)
 ·simp only[ZC,ur,Jh];obtain⟨g,c,h⟩:=ae h;try refine ZF trivial ?_
  refine aw (aY (aC (w_k a) c ?_)) ?_
  ·exact ZK (ZA @S_k.eq_1 @tG.eq_1)
  ·simp only[ZC,tG,GL];cases h;exact ZL trivial @V10.eq_1
def En(a:ah)(v:Int×List Int×ax):St:=⟨[(0,.pt 1000000000 0 0),(3,.pt 3 0 0),(5,.sl 5 0 v.2.1.length),(6,.i v.1)],[(3,.var (.agg [.lst .m 1 (((a).Nodes).map AV.z),.lst .m 4 (((a).Fibers).map (ai .m))])),(5,.arr 1 (v.2.1.map AV.i)),(1000000000,.var (.agg [.lst .o 1 (((v.2.2).code).map AV.u8),.i ((v.2.2).atF),.sc (.int .u64 ((v.2.2).seed))]))]⟩
def Ab(a:ah)(v:List Int×ax):St:=⟨[(0,.pt 1000000000 0 0),(3,.pt 3 0 0),(5,.sl 5 0 v.1.length)],[(3,.var (.agg [.lst .m 1 (((a).Nodes).map AV.z),.lst .m 4 (((a).Fibers).map (ai .m))])),(5,.arr 1 (v.1.map AV.i)),(1000000000,.var (.agg [.lst .o 1 (((v.2).code).map AV.u8),.i ((v.2).atF),.sc (.int .u64 ((v.2).seed))]))]⟩
theorem w_be(c:ah)(b:Int×List Int×ax)(o:(Int×List Int×ax)⊕(List Int×ax))(h:JV c b=some o):AWP (OkS Tryz.prog) pE (qL [0,3,5,6] [3,5,1000000000] (En c) (qX 0 [0,3,5] [3,5,1000000000] (Ab c)) o) (En c b):=by
 have e:=ZA @En.eq_1 @Ab.eq_1;unfold JV at h;simp only[ZC,En,pE];obtain⟨a,h⟩|⟨a,h⟩:=aq h
 ·obtain⟨w,s,h⟩:=ae h;refine ZF a ?_;refine ZWG a (NE _ _ s) [1000000000] [] ?_;obtain⟨g,h⟩|⟨g,h⟩:=aq h
  ·obtain⟨j,d,h⟩:=aO h;have t:Row.arr 1 [(.i b.1:AV)]=Row.arr 1 (j.map AV.i):=by rw[<-d];rfl
   have l:j.length=1:=by rw[<-d];rfl
   obtain⟨x,u,h⟩:=ae h;have m:=aI u;obtain⟨p,k,h⟩:=aO h;have v:b.2.1.map AV.i++j.map AV.i=p.map AV.i:=by rw[<-k,List.map_append]
   have q:b.2.1.length+1=p.length:=by simp[<-d,<-k]<;>omega
   rw[q] at m;cases h;exact ZL (ZA a (ZA g (ZA t (ZA l (ZA m (ZA v q)))))) (ZA e (ZA d.symm (ZA k.symm l)))
  ·cases h;exact ZL (ZA a g) e
 ·cases h;exact ZL a e
def Ln(b:List Int×ax)(c:List (List Int))(a:Bool×ax)(v:Nat):St:=⟨[(5,.sl 5 0 v),(7,.i (c.length:Int))],[(5,.arr 1 (b.1.map AV.i)),(1000000000,.var (.agg [.lst .o 1 (((a.2).code).map AV.u8),.i ((a.2).atF),.sc (.int .u64 ((a.2).seed))]))]⟩
def zi(b:List Int×ax)(a:Bool×ax)(v:Nat):St:=⟨[(5,.sl 5 0 v)],[(5,.arr 1 (b.1.map AV.i)),(1000000000,.var (.agg [.lst .o 1 (((a.2).code).map AV.u8),.i ((a.2).atF),.sc (.int .u64 ((a.2).seed))]))]⟩
theorem w_ap(c:List Int×ax)(d:List (List Int))(a:Bool×ax)(g:Nat)(o:Nat⊕Nat)(h:Md c d g=some o):AWP (OkS Tryz.prog) oC (qL [5,7] [5,1000000000] (Ln c d a) (qX 2 [5] [5,1000000000] (zi c a)) o) (Ln c d a g):=by
 have e:=ZA @Ln.eq_1 @zi.eq_1;unfold Md at h;simp only[ZC,Ln,oC];obtain⟨l,m,h⟩:=ae h;try refine ZF trivial ?_
 refine aw (sh:=(fun v=>⟨[(5,.sl 5 0 g),(7,.i (d.length:Int)),(40,.b v)],[(5,.arr 1 (c.1.map AV.i)),(1000000000,.var (.agg [.lst .o 1 (((a.2).code).map AV.u8),.i ((a.2).atF),.sc (.int .u64 ((a.2).seed))]))]⟩)) (s:=l) ?_ ?_
 ·replace h:=m;obtain⟨j,h⟩|⟨j,h⟩:=aq h
  ·obtain⟨u,p,h⟩:=ae h;obtain⟨w,q,h⟩:=ae h;cases h;exact ZL (ZA j (ZA (aI p) q)) trivial
  ·cases h;exact ZL j trivial
 ·simp only[ZC,tH];obtain⟨k,h⟩|⟨k,h⟩:=aq h
  ·obtain⟨x,t,h⟩:=ae h;cases h;exact ZL (ZA k (aI t)) e
  ·cases h;exact ZL k e
theorem w_gn(a:ah)(b:ax){r:Nat×Nat×List Int×ax}(h:Gl a b=some r):OkM Tryz.prog 137 [.pt 1000000000 0 0,.agg [.lst .m 1 (((a).Nodes).map AV.z),.lst .m 4 (((a).Fibers).map (ai .m))]] [(1000000000,.var (.agg [.lst .o 1 (((b).code).map AV.u8),.i ((b).atF),.sc (.int .u64 ((b).seed))]))] (.sl 4 r.1 r.2.1) ([(4,.arr 1 (r.2.2.1.map AV.i)),(1000000000,.var (.agg [.lst .o 1 (((r.2.2.2).code).map AV.u8),.i ((r.2.2.2).atF),.sc (.int .u64 ((r.2.2.2).seed))]))]):=by
 refine aZ (lr:=[4,1000000000]) bd Uy rfl rfl ?_;unfold Gl at h;simp only[ZC,EB,az];obtain⟨c,p,h⟩:=ae h;try refine ZF trivial ?_
 refine aw (aY (aC (w_be a) p ?_)) ?_
 ·exact ZK (ZA @En.eq_1 @Ab.eq_1)
 ·simp only[ZC,Ab,tZ];obtain⟨q,t,h⟩:=ae h;try refine ZF trivial ?_
  refine aw (sh:=(fun v=>⟨[(5,.sl 5 0 v.1)],[(5,.arr 1 (c.1.map AV.i)),(1000000000,.var (.agg [.lst .o 1 (((v.2).code).map AV.u8),.i ((v.2).atF),.sc (.int .u64 ((v.2).seed))]))]⟩)) (s:=q) ?_ ?_
  ·replace h:=t;obtain⟨g,u,h⟩:=ae h;refine ZF trivial ?_;refine ZUG trivial (VD _ u) ?_;obtain⟨j,w,h⟩:=ae h;refine ZF trivial ?_;refine ZWG trivial (NE _ _ w) [1000000000] [] ?_;obtain⟨d,h⟩|⟨d,h⟩:=aq h
   ·obtain⟨x,k,h⟩:=ae h;try refine ZF d ?_
    first|refine cK (aY (aC (w_ap c g j) k ?_)) (fun τ l=>?_)|refine dx (aC (w_ap c g j) k ?_) (fun τ l=>?_)
    ·exact ZK (ZA @Ln.eq_1 @zi.eq_1)
    ·cases h;try refine ZF trivial ?_
     refine⟨rfl,Shp.sub l (by decide) (by decide) ?_⟩;exact ZK @zi.eq_1
   ·cases h;exact ZL d trivial
  ·simp only[ZC,uC];cases h;exact ZL trivial @az.eq_1
theorem w_gz(a:List Int){r:ah×Nat×Nat×Nat×Nat×List af×List Int}(h:NX a=some r):OkM Tryz.prog 64 [.lst .o 1 (a.map AV.u8)] [] (.tup [.agg [.lst .m 1 (((r.1).Nodes).map AV.z),.lst .m 4 (((r.1).Fibers).map (ai .m))],.sl 3 r.2.1 r.2.2.1,.sl 4 r.2.2.2.1 r.2.2.2.2.1]) ([(3,.arr 10 (r.2.2.2.2.2.1.map (aj .m))),(4,.arr 1 (r.2.2.2.2.2.2.map AV.i))]):=by
 refine aZ (lr:=[3,4]) bd Wb rfl rfl ?_;unfold NX at h;simp only[ZC,Sz,qA];obtain⟨d,b,h⟩:=ae h;refine ZF trivial ?_;refine ZWG trivial (w_gm _ b) [3,1000000000] [1400003] ?_;obtain⟨g,c,h⟩:=ae h;refine ZF trivial ?_;refine ZWG trivial (w_gn _ _ c) [4,1000000000] [2100004] ?_;cases h;exact ZL trivial @qA.eq_1
theorem w_fc(a:List Int){r:ah×Nat×Nat×Nat×Nat×List af×List Int}(h:KG a=some r):OkM Tryz.prog 11 [.lst .o 1 (a.map AV.u8)] [] (.tup [.agg [.lst .m 1 (((r.1).Nodes).map AV.z),.lst .m 4 (((r.1).Fibers).map (ai .m))],.sl 3 r.2.1 r.2.2.1,.sl 4 r.2.2.2.1 r.2.2.2.2.1]) ([(3,.arr 10 (r.2.2.2.2.2.1.map (aj .m))),(4,.arr 1 (r.2.2.2.2.2.2.map AV.i))]):=by
 refine aZ (lr:=[3,4]) bd WD rfl rfl ?_;unfold KG at h;simp only[ZC,RD,qA];obtain⟨c,b,h⟩:=ae h;refine ZF trivial ?_;refine ZWG trivial (w_gz _ b) [3,4] [700003,700004] ?_;cases h;exact ZL trivial @qA.eq_1
theorem w_h(c:Int)(d:Int)(g:Int){r:Bool}(h:M_h c d g=some r):Ok Tryz.prog 76 [.i c,.i d,.i g] (.b r):=by
 refine aA bd m76 rfl ?_;unfold M_h at h;simp only[ZC,A76,bJ,aJ];obtain⟨a,h⟩|⟨a,h⟩:=aq h
 ·cases h;exact ZL a @bJ.eq_1
 ·cases h;exact ZL a @bJ.eq_1
def GC(a:ByteArray)(v:Int):St:=⟨[(0,.z a),(7,.i (a.size:Int)),(8,.i v)],[]⟩
def yN(a:ByteArray)(v:Unit):St:=⟨[(0,.z a)],[]⟩
theorem w_ag(c:ByteArray)(j:Int)(o:Int⊕(Unit⊕Bool))(h:Da c j=some o):AWP (OkS Tryz.prog) wu (qL [0,7,8] [] (GC c) (qS (qX 0 [0] [] (yN c)) (qR V10 (fun r=>.b r))) o) (GC c j):=by
 have e:=ZA @GC.eq_1 @yN.eq_1;unfold Da at h;simp only[ZC,GC,wu];obtain⟨a,h⟩|⟨a,h⟩:=aq h
 ·obtain⟨t,u,h⟩:=ae h;try refine ZF a ?_
  refine aw (sh:=(fun v=>⟨[(0,.z c),(3,.i j),(4,.b v.1),(5,.b v.2),(7,.i (c.size:Int)),(8,.i j)],[]⟩)) (s:=t) ?_ ?_
  ·replace h:=u;obtain⟨w,k,h⟩:=ae h;obtain⟨d,h⟩|⟨d,h⟩:=aq h
   ·obtain⟨m,h⟩|⟨m,h⟩:=aq h
    ·cases h;exact ZL (ZA a (ZA (jF k) (ZA d m))) trivial
    ·cases h;exact ZL (ZA a (ZA (jF k) (ZA d m))) trivial
   ·obtain⟨p,h⟩|⟨p,h⟩:=aq h
    ·cases h;exact ZL (ZA a (ZA (jF k) (ZA d p))) trivial
    ·cases h;exact ZL (ZA a (ZA (jF k) (ZA d p))) trivial
  ·simp only[ZC,Gt];obtain⟨g,h⟩|⟨g,h⟩:=aq h
   ·obtain⟨l,h⟩|⟨l,h⟩:=aq h
    ·cases h;exact ZL (ZA a (ZA g l)) @V10.eq_1
    ·obtain⟨q,h⟩|⟨q,h⟩:=aq h
     ·cases h;exact ZL (ZA a (ZA g (ZA l q))) @V10.eq_1
     ·cases h;exact ZL (ZA a (ZA g (ZA l q))) e
   ·cases h;exact ZL (ZA a g) e
 ·cases h;exact ZL a e
theorem w_ew(a:ByteArray){r:Bool}(h:Ha a=some r):Ok Tryz.prog 147 [.z a] (.b r):=by
 refine aA bd m147 rfl ?_;unfold Ha at h;simp only[ZC,A147,V10,aJ];obtain⟨c,d,h⟩:=ae h;try refine ZF trivial ?_
 refine bo (o:=c) (bu cJ (aC (w_ag a) d ?_)) (fun j hv=>?_) (fun k hv e τ hne hq=>?_)
 ·exact ZK (ZA @GC.eq_1 @yN.eq_1)
 ·subst hv;simp only[] at h;simp only[ZC,yN,Il];obtain⟨l,g,h⟩:=ae h;refine ZF trivial ?_;refine ZSG trivial (w_h _ _ _ g) ?_;cases h;exact ZL trivial @V10.eq_1
 ·subst hv;simp only[] at h;obtain⟨rfl,i⟩:=hq;cases h;exact i
def Jo(a:List ByteArray)(b:ByteArray)(v:Int):St:=⟨[(0,.lst .o 1 (a.map AV.z)),(1,.z b),(7,.i (a.length:Int)),(8,.i v)],[]⟩
theorem w_bw(b:List ByteArray)(c:ByteArray)(g:Int)(o:Int⊕(Unit⊕Int))(h:BS b c g=some o):AWP (OkS Tryz.prog) xN (qL [0,1,7,8] [] (Jo b c) (qS (qX 0 [] [] (bR)) (qR az (fun r=>.i r))) o) (Jo b c g):=by
 have e:=ZA @Jo.eq_1 @bR.eq_1;unfold BS at h;simp only[ZC,Jo,xN];obtain⟨a,h⟩|⟨a,h⟩:=aq h
 ·obtain⟨k,j,h⟩:=ae h;obtain⟨d,h⟩|⟨d,h⟩:=aq h
  ·cases h;exact ZL (ZA a (ZA (aM j) d)) @az.eq_1
  ·cases h;exact ZL (ZA a (ZA (aM j) d)) e
 ·cases h;exact ZL a e
theorem w_gx(a:List ByteArray)(b:ByteArray){r:Int}(h:PP a b=some r):Ok Tryz.prog 206 [.lst .o 1 (a.map AV.z),.z b] (.i r):=by
 refine aA bd m206 rfl ?_;unfold PP at h;simp only[ZC,A206,az,aJ];obtain⟨c,d,h⟩:=ae h;try refine ZF trivial ?_
 refine bo (o:=c) (bu cJ (aC (w_bw a b) d ?_)) (fun j hv=>?_) (fun k hv e τ hne hq=>?_)
 ·exact ZK (ZA @Jo.eq_1 @bR.eq_1)
 ·subst hv;simp only[] at h;simp only[ZC,bR,EQ];cases h;exact ZL trivial @az.eq_1
 ·subst hv;simp only[] at h;obtain⟨rfl,g⟩:=hq;cases h;exact g
theorem w_fa(a:List ByteArray)(c:ByteArray){r:Bool}(h:Mg a c=some r):Ok Tryz.prog 148 [.lst .o 1 (a.map AV.z),.z c] (.b r):=by
 refine aA bd m148 rfl ?_;unfold Mg at h;simp only[ZC,A148,az,aJ];obtain⟨g,d,h⟩:=ae h;refine ZF trivial ?_;refine ZSG trivial (w_gx _ _ d) ?_;cases h;exact ZL trivial @az.eq_1
theorem Np(a:Int){r:Bool}(h:um a=some r):Ok Tryz.prog 224 [.i a] (.b r):=by
 refine aA bd m224 rfl ?_;unfold um at h;simp only[ZC,A224,V10,aJ];cases h;exact ZL trivial @V10.eq_1
theorem PL(j:Int)(k:Int){r:Int}(h:uT j k=some r):Ok Tryz.prog 189 [.i j,.i k] (.i r):=by
 have e:=@az.eq_1;refine aA bd m189 rfl ?_;unfold uT at h;simp only[ZC,A189,az,aJ];obtain⟨p,l,h⟩:=ae h;refine ZF trivial ?_;refine ZSG trivial (Np _ l) ?_;obtain⟨q,m,h⟩:=ae h;refine ZF trivial ?_;refine ZSG trivial (Np _ m) ?_;obtain⟨a,h⟩|⟨a,h⟩:=aq h
 ·obtain⟨d,h⟩|⟨d,h⟩:=aq h
  ·cases h;exact ZL (ZA a d) e
  ·cases h;exact ZL (ZA a d) e
 ·obtain⟨b,h⟩|⟨b,h⟩:=aq h
  ·cases h;exact ZL (ZA a b) e
  ·obtain⟨c,h⟩|⟨c,h⟩:=aq h
   ·cases h;exact ZL (ZA a (ZA b c)) e
   ·obtain⟨g,h⟩|⟨g,h⟩:=aq h
    ·cases h;exact ZL (ZA a (ZA b (ZA c g))) e
    ·cases h;exact ZL (ZA a (ZA b (ZA c g))) e
def Mb(a:List Int)(v:Int):St:=⟨[(3,.i 0),(6,.lst .o 1 (a.map AV.i)),(7,.i (a.length:Int)),(8,.i v)],[]⟩
def yg(v:Unit):St:=⟨[(3,.i 0)],[]⟩
theorem w_ah(b:List Int)(d:Int)(o:Int⊕(Unit⊕Int))(h:DW b d=some o):AWP (OkS Tryz.prog) xH (qL [3,6,7,8] [] (Mb b) (qS (qX 0 [3] [] (yg)) (qR V10 (fun r=>.i r))) o) (Mb b d):=by
 have e:=ZA @Mb.eq_1 @yg.eq_1;unfold DW at h;simp only[ZC,Mb,xH];obtain⟨a,h⟩|⟨a,h⟩:=aq h
 ·obtain⟨j,g,h⟩:=ae h;obtain⟨c,h⟩|⟨c,h⟩:=aq h
  ·cases h;exact ZL (ZA a (ZA (aM g) c)) @V10.eq_1
  ·cases h;exact ZL (ZA a (ZA (aM g) c)) e
 ·cases h;exact ZL a e
theorem w_gy(a:List Int){r:Int}(h:QZ a=some r):Ok Tryz.prog 188 [.lst .o 1 (a.map AV.i)] (.i r):=by
 refine aA bd m188 rfl ?_;unfold QZ at h;simp only[ZC,A188,V10,aJ];obtain⟨b,c,h⟩:=ae h;try refine ZF trivial ?_
 refine bo (o:=b) (bu cJ (aC (w_ah a) c ?_)) (fun g hv=>?_) (fun j hv e τ hne hq=>?_)
 ·exact ZK (ZA @Mb.eq_1 @yg.eq_1)
 ·subst hv;simp only[] at h;simp only[ZC,yg,MH];cases h;exact ZL trivial @V10.eq_1
 ·subst hv;simp only[] at h;obtain⟨rfl,d⟩:=hq;cases h;exact d
theorem w_fb(a:ay)(b:ay){r:Int}(h:FC a b=some r):Ok Tryz.prog 149 [.agg [.i a.A,.i a.B,.i a.Length,.i a.Risk],.agg [.i b.A,.i b.B,.i b.Length,.i b.Risk]] (.i r):=by
 refine aA bd m149 rfl ?_;unfold FC at h;simp only[ZC,A149,az,aJ];obtain⟨j,k,h⟩:=ae h;refine ZF trivial ?_;refine ZSG trivial (PL _ _ k) ?_;obtain⟨l,m,h⟩:=ae h;refine ZF trivial ?_;refine ZSG trivial (PL _ _ m) ?_;obtain⟨p,q,h⟩:=ae h;refine ZF trivial ?_;refine ZSG trivial (PL _ _ q) ?_;obtain⟨s,t,h⟩:=ae h;refine ZF trivial ?_;refine ZSG trivial (PL _ _ t) ?_;obtain⟨c,d,h⟩:=aO h;have u:Row.arr 1 [(.i j:AV),(.i l:AV),(.i p:AV),(.i s:AV)]=Row.arr 1 (c.map AV.i):=by rw[<-d];rfl
 have g:c.length=4:=by rw[<-d];rfl
 have v:sub (c.map AV.i) 0 4=c.map AV.i:=yp _ (by simp[<-d]);obtain⟨x,w,h⟩:=ae h;have f:=ZA u (ZA g v);refine ZF f ?_;refine ZSG f (w_gy _ w) ?_;cases h;exact ZL f (ZA @az.eq_1 (ZA d.symm g))
def BT(a:ah)(v:Int):St:=⟨[(1,.pt 1 0 0),(8,.lst .o 1 (a.Nodes.map AV.z)),(9,.i (a.Nodes.length:Int)),(10,.i v)],[(1,.var (.agg [.lst .o 1 (a.Nodes.map AV.z),.lst .o 4 (a.Fibers.map (ai .o))]))]⟩
theorem w_bt(a:ah)(i:Int)(o:Int⊕(Unit⊕Bool))(h:Cb a i=some o):AWP (OkS Tryz.prog) LF (qL [1,8,9,10] [1] (BT a) (qS (qX 0 [1] [1] (kK a)) (qR V10 (fun r=>.b r))) o) (BT a i):=by
 unfold Cb at h;simp only[ZC,BT,LF];obtain⟨c,h⟩|⟨c,h⟩:=aq h
 ·obtain⟨v,j,h⟩:=ae h;obtain⟨w,k,h⟩:=ae h;have f:=ZA c (aM j);refine ZF f ?_;refine ZSG f (w_ew _ k) ?_;obtain⟨d,h⟩|⟨d,h⟩:=aq h
  ·cases h;exact ZL (ZA f d) @V10.eq_1
  ·obtain⟨x,l,h⟩:=ae h;obtain⟨m,p,q,s,t⟩:=zZ AV.z l;obtain⟨y,u,h⟩:=ae h;have f:=ZA f (ZA d (ZA m (ZA p (ZA q (ZA s t)))));refine ZF f ?_;refine ZSG f (w_fa _ _ u) ?_;obtain⟨g,h⟩|⟨g,h⟩:=aq h
   ·cases h;exact ZL (ZA f g) @V10.eq_1
   ·cases h;exact ZL (ZA f g) (ZA @BT.eq_1 @kK.eq_1)
 ·cases h;exact ZL c (ZA @BT.eq_1 @kK.eq_1)
def wW(a:ah)(v:Int):St:=⟨[(1,.pt 1 0 0),(28,.lst .o 4 (a.Fibers.map (ai .o))),(29,.i (a.Fibers.length:Int)),(30,.i v)],[(1,.var (.agg [.lst .o 1 (a.Nodes.map AV.z),.lst .o 4 (a.Fibers.map (ai .o))]))]⟩
theorem w_bj(d:ah)(q:Int)(o:Int⊕(Unit⊕Bool))(h:Ci d q=some o):AWP (OkS Tryz.prog) KL (qL [1,28,29,30] [1] (wW d) (qS (qX 2 [1] [1] (kK d)) (qR V10 (fun r=>.b r))) o) (wW d q):=by
 have e:=@V10.eq_1;unfold Ci at h;simp only[ZC,wW,KL];obtain⟨a,h⟩|⟨a,h⟩:=aq h
 ·obtain⟨w,g,h⟩:=ae h;obtain⟨c,h⟩|⟨c,h⟩:=aq h
  ·cases h;exact ZL (ZA a (ZA (aM g) c)) e
  ·obtain⟨i,h⟩|⟨i,h⟩:=aq h
   ·cases h;exact ZL (ZA a (ZA (aM g) (ZA c i))) e
   ·obtain⟨k,h⟩|⟨k,h⟩:=aq h
    ·cases h;exact ZL (ZA a (ZA (aM g) (ZA c (ZA i k)))) e
    ·obtain⟨x,s,h⟩:=ae h;have f:=ZA a (ZA (aM g) (ZA c (ZA i k)));refine ZF f ?_;refine ZSG f (w_h _ _ _ s) ?_;obtain⟨l,h⟩|⟨l,h⟩:=aq h
     ·cases h;exact ZL (ZA f l) e
     ·obtain⟨y,t,h⟩:=ae h;have f:=ZA f l;refine ZF f ?_;refine ZSG f (w_h _ _ _ t) ?_;obtain⟨j,h⟩|⟨j,h⟩:=aq h
      ·cases h;exact ZL (ZA f j) e
      ·obtain⟨m,h⟩|⟨m,h⟩:=aq h
       ·obtain⟨z,u,h⟩:=ae h;obtain⟨a1,v,h⟩:=ae h;have f:=ZA f (ZA j (ZA m (aM u)));refine ZF f ?_;refine ZSG f (w_fb _ _ v) ?_;obtain⟨p,h⟩|⟨p,h⟩:=aq h
        ·cases h;exact ZL (ZA f p) e
        ·cases h;exact ZL (ZA f p) (ZA @wW.eq_1 @kK.eq_1)
       ·cases h;exact ZL (ZA f (ZA j m)) (ZA @wW.eq_1 @kK.eq_1)
 ·cases h;exact ZL a (ZA @wW.eq_1 @kK.eq_1)
theorem w_ej(a:ah){r:Bool}(h:BG a=some r):Ok Tryz.prog 81 [.agg [.lst .o 1 (a.Nodes.map AV.z),.lst .o 4 (a.Fibers.map (ai .o))]] (.b r):=by
 refine aA bd m81 rfl ?_;unfold BG at h;simp only[ZC,A81,V10,aJ];obtain⟨d,g,h⟩:=ae h;try refine ZF trivial ?_
 refine bo (o:=d) (bu cJ (aC (w_bt a) g ?_)) (fun p hv=>?_) (fun q hv e τ hne hq=>?_)
 ·exact ZK (ZA @BT.eq_1 @kK.eq_1)
 ·subst hv;simp only[] at h;simp only[ZC,kK,Ry];obtain⟨i,j,h⟩:=ae h;try refine ZF trivial ?_
  refine bo (o:=i) (bu cJ (aC (w_bj a) j ?_)) (fun s hv=>?_) (fun t hv e τ hne hq=>?_)
  ·exact ZK (ZA @wW.eq_1 @kK.eq_1)
  ·subst hv;simp only[] at h;simp only[ZC,kK,Rb];obtain⟨u,k,h⟩:=ae h;refine ZF trivial ?_;refine ZSG trivial (w_h _ _ _ k) ?_;obtain⟨c,h⟩|⟨c,h⟩:=aq h
   ·cases h;exact ZL c @V10.eq_1
   ·cases h;exact ZL c @V10.eq_1
  ·subst hv;simp only[] at h;obtain⟨rfl,l⟩:=hq;cases h;exact l
 ·subst hv;simp only[] at h;obtain⟨rfl,m⟩:=hq;cases h;exact m
theorem w_go(a:ay)(d:Int){r:Int}(h:Ku a d=some r):Ok Tryz.prog 215 [.agg [.i a.A,.i a.B,.i a.Length,.i a.Risk],.i d] (.i r):=by
 refine aA bd m215 rfl ?_;unfold Ku at h;simp only[ZC,A215,az,aJ];obtain⟨b,h⟩|⟨b,h⟩:=aq h
 ·cases h;exact ZL b @az.eq_1
 ·obtain⟨c,h⟩|⟨c,h⟩:=aq h
  ·cases h;exact ZL (ZA b c) @az.eq_1
  ·cases h;exact ZL (ZA b c) @az.eq_1
def Ec(a:List Int)(b:Int)(v:Int):St:=⟨[(0,.lst .o 1 (a.map AV.i)),(1,.i b),(7,.i (a.length:Int)),(8,.i v)],[]⟩
theorem w_co(b:List Int)(c:Int)(g:Int)(o:Int⊕(Unit⊕Int))(h:AW b c g=some o):AWP (OkS Tryz.prog) vQ (qL [0,1,7,8] [] (Ec b c) (qS (qX 0 [] [] (bR)) (qR az (fun r=>.i r))) o) (Ec b c g):=by
 have e:=ZA @Ec.eq_1 @bR.eq_1;unfold AW at h;simp only[ZC,Ec,vQ];obtain⟨a,h⟩|⟨a,h⟩:=aq h
 ·obtain⟨k,j,h⟩:=ae h;obtain⟨d,h⟩|⟨d,h⟩:=aq h
  ·cases h;exact ZL (ZA a (ZA (aM j) d)) @az.eq_1
  ·cases h;exact ZL (ZA a (ZA (aM j) d)) e
 ·cases h;exact ZL a e
theorem w_hg(a:List Int)(b:Int){r:Int}(h:PZ a b=some r):Ok Tryz.prog 139 [.lst .o 1 (a.map AV.i),.i b] (.i r):=by
 refine aA bd m139 rfl ?_;unfold PZ at h;simp only[ZC,A139,az,aJ];obtain⟨c,d,h⟩:=ae h;try refine ZF trivial ?_
 refine bo (o:=c) (bu cJ (aC (w_co a b) d ?_)) (fun j hv=>?_) (fun k hv e τ hne hq=>?_)
 ·exact ZK (ZA @Ec.eq_1 @bR.eq_1)
 ·subst hv;simp only[] at h;simp only[ZC,bR,Fj];cases h;exact ZL trivial @az.eq_1
 ·subst hv;simp only[] at h;obtain⟨rfl,g⟩:=hq;cases h;exact g
theorem Ou(a:List Int)(c:Int){r:Bool}(h:uK a c=some r):Ok Tryz.prog 68 [.lst .o 1 (a.map AV.i),.i c] (.b r):=by
 refine aA bd m68 rfl ?_;unfold uK at h;simp only[ZC,A68,az,aJ];obtain⟨g,d,h⟩:=ae h;refine ZF trivial ?_;refine ZSG trivial (w_hg _ _ d) ?_;cases h;exact ZL trivial @az.eq_1
def Dt(a:ah)(b:ar)(v:Int×Int×List Int):St:=⟨[(2,.pt 2 0 0),(6,.sl 6 0 v.2.2.length),(7,.i v.1),(30,.lst .o 1 (b.Fibers.map AV.i)),(31,.i (b.Fibers.length:Int)),(32,.i v.2.1)],[(2,.var (.agg [.lst .o 1 (a.Nodes.map AV.z),.lst .o 4 (a.Fibers.map (ai .o))])),(6,.arr 1 (v.2.2.map AV.i))]⟩
theorem w_bq(c:ah)(d:ar)(a:Int×Int×List Int)(o:(Int×Int×List Int)⊕((List Int)⊕(List Int×Bool)))(h:Cn c d a=some o):AWP (OkS Tryz.prog) xO (qL [2,6,7,30,31,32] [2,6] (Dt c d) (qS (qX 0 [6] [6] (lw)) (qR kP (fun r=>.tup [.lst .u 1 (r.1.map AV.i),.b r.2]))) o) (Dt c d a):=by
 unfold Cn at h;simp only[ZC,Dt,xO];obtain⟨j,h⟩|⟨j,h⟩:=aq h
 ·obtain⟨q1,b1,h⟩:=ae h;obtain⟨s1,c1,h⟩:=ae h;have f:=ZA j (aM b1);refine ZF f ?_;refine ZSG f (w_h _ _ _ c1) ?_;obtain⟨k,h⟩|⟨k,h⟩:=aq h
  ·cases h;exact ZL (ZA f k) @kP.eq_1
  ·obtain⟨t1,d1,h⟩:=ae h;obtain⟨t,g1,h⟩:=ae h;have f:=ZA f (ZA k (aM d1));refine ZF f ?_;refine ZSG f (w_go _ _ g1) ?_;obtain⟨i1,j1,h⟩:=ae h;try refine ZF f ?_
   refine aw (sh:=(fun v=>⟨[(2,.pt 2 0 0),(6,.sl 6 0 a.2.2.length),(7,.i t),(30,.lst .o 1 (d.Fibers.map AV.i)),(31,.i (d.Fibers.length:Int)),(32,.i a.2.1),(56,.b v)],[(2,.var (.agg [.lst .o 1 (c.Nodes.map AV.z),.lst .o 4 (c.Fibers.map (ai .o))])),(6,.arr 1 (a.2.2.map AV.i))]⟩)) (s:=i1) ?_ ?_
   ·replace h:=j1;obtain⟨l,h⟩|⟨l,h⟩:=aq h
    ·cases h;exact ZL (ZA f l) trivial
    ·obtain⟨u1,k1,h⟩:=ae h;have f:=ZA f l;refine ZF f ?_;refine ZSG f (Ou _ _ k1) ?_;cases h;exact ZL f trivial
   ·simp only[ZC,Kh];obtain⟨m,h⟩|⟨m,h⟩:=aq h
    ·cases h;exact ZL (ZA f m) @kP.eq_1
    ·obtain⟨p,g,h⟩:=aO h;have l1:Row.arr 1 [(.i t:AV)]=Row.arr 1 (p.map AV.i):=by rw[<-g];rfl
     have w:p.length=1:=by rw[<-g];rfl
     obtain⟨v1,m1,h⟩:=ae h;have x:=aI m1;obtain⟨y,q,h⟩:=aO h;have p1:a.2.2.map AV.i++p.map AV.i=y.map AV.i:=by rw[<-q,List.map_append]
     have a1:a.2.2.length+1=y.length:=by simp[<-g,<-q]<;>omega
     rw[a1] at x;cases h;exact ZL (ZA f (ZA m (ZA l1 (ZA w (ZA x (ZA p1 a1)))))) (ZA @Dt.eq_1 (ZA @lw.eq_1 (ZA g.symm (ZA q.symm w))))
 ·cases h;exact ZL j (ZA @Dt.eq_1 @lw.eq_1)
theorem w_ds(c:ah)(a:ar){r:List Int×Bool}(h:DC c a=some r):Ok Tryz.prog 168 [.agg [.lst .o 1 (c.Nodes.map AV.z),.lst .o 4 (c.Fibers.map (ai .o))],.agg [.i a.Start,.lst .o 1 (a.Fibers.map AV.i)]] (.tup [.lst .u 1 (r.1.map AV.i),.b r.2]):=by
 refine aA bd m168 rfl ?_;unfold DC at h;simp only[ZC,A168,kP,aJ];obtain⟨m,p,h⟩:=ae h;try refine ZF trivial ?_
 refine aw (sh:=(fun v=>⟨[(2,.pt 2 0 0),(3,.pt 3 0 0),(23,.b v)],[(2,.var (.agg [.lst .o 1 (c.Nodes.map AV.z),.lst .o 4 (c.Fibers.map (ai .o))])),(3,.var (.agg [.i a.Start,.lst .o 1 (a.Fibers.map AV.i)]))]⟩)) (s:=m) ?_ ?_
 ·replace h:=p;obtain⟨a1,q,h⟩:=ae h;refine ZF trivial ?_;refine ZSG trivial (w_h _ _ _ q) ?_;obtain⟨d,h⟩|⟨d,h⟩:=aq h
  ·cases h;exact ZL d trivial
  ·cases h;exact ZL d trivial
 ·simp only[ZC,JN];obtain⟨g,h⟩|⟨g,h⟩:=aq h
  ·cases h;exact ZL g @kP.eq_1
  ·obtain⟨l,j,h⟩:=aO h;have t:Row.arr 1 [(.i a.Start:AV)]=Row.arr 1 (l.map AV.i):=by rw[<-j];rfl
   have k:l.length=1:=by rw[<-j];rfl
   obtain⟨w,x,h⟩:=ae h;have f:=ZA g (ZA t k);try refine ZF f ?_
   refine bo (o:=w) (bu cJ (aC (w_bq c a) x ?_)) (fun b1 hv=>?_) (fun c1 hv e τ hne hq=>?_)
   ·exact ZK (ZA @Dt.eq_1 (ZA @lw.eq_1 (ZA j.symm k)))
   ·subst hv;simp only[] at h;simp only[ZC,lw,FJ];cases h;exact ZL f (ZA @kP.eq_1 k)
   ·subst hv;simp only[] at h;obtain⟨rfl,y⟩:=hq;cases h;exact y
theorem w_ek(c:aH){r:Bool}(h:Ch c=some r):Ok Tryz.prog 169 [.agg [.i c.First,.i c.Count]] (.b r):=by
 refine aA bd m169 rfl ?_;unfold Ch at h;simp only[ZC,A169,V10,aJ];obtain⟨a,h⟩|⟨a,h⟩:=aq h
 ·obtain⟨j,g,h⟩:=ae h;refine ZF a ?_;refine ZSG a (w_h _ _ _ g) ?_;obtain⟨d,h⟩|⟨d,h⟩:=aq h
  ·cases h;exact ZL (ZA a d) @V10.eq_1
  ·cases h;exact ZL (ZA a d) @V10.eq_1
 ·cases h;exact ZL a @V10.eq_1
def Fw(a:ah)(b:Int×List (List Int))(v:Int×List Int):St:=⟨[(1,.pt 1 0 0),(3,.sl 3 0 b.2.length),(4,.i b.1),(5,.sl 5 0 v.2.length),(17,.lst .o 4 (a.Fibers.map (ai .o))),(18,.i (a.Fibers.length:Int)),(19,.i v.1)],[(1,.var (.agg [.lst .o 1 (a.Nodes.map AV.z),.lst .o 4 (a.Fibers.map (ai .o))])),(3,.arr 1 (b.2.map (bI .u))),(5,.arr 1 (v.2.map AV.i))]⟩
def zf(b:ah)(a:Int×List (List Int))(v:List Int):St:=⟨[(1,.pt 1 0 0),(3,.sl 3 0 a.2.length),(4,.i a.1),(5,.sl 5 0 v.length)],[(1,.var (.agg [.lst .o 1 (b.Nodes.map AV.z),.lst .o 4 (b.Fibers.map (ai .o))])),(3,.arr 1 (a.2.map (bI .u))),(5,.arr 1 (v.map AV.i))]⟩
theorem w_ai(b:ah)(c:Int×List (List Int))(a:Int×List Int)(o:(Int×List Int)⊕(List Int))(h:Av b c a=some o):AWP (OkS Tryz.prog) Gs (qL [1,3,4,5,17,18,19] [1,3,5] (Fw b c) (qX 2 [1,3,4,5] [1,3,5] (zf b c)) o) (Fw b c a):=by
 have e:=ZA @Fw.eq_1 @zf.eq_1;unfold Av at h;simp only[ZC,Fw,Gs];obtain⟨d,h⟩|⟨d,h⟩:=aq h
 ·obtain⟨x,m,h⟩:=ae h;obtain⟨j,h⟩|⟨j,h⟩:=aq h
  ·obtain⟨k,g,h⟩:=aO h;have u:Row.arr 1 [(.i a.1:AV)]=Row.arr 1 (k.map AV.i):=by rw[<-g];rfl
   have p:k.length=1:=by rw[<-g];rfl
   obtain⟨y,v,h⟩:=ae h;have q:=aI v;obtain⟨s,l,h⟩:=aO h;have w:a.2.map AV.i++k.map AV.i=s.map AV.i:=by rw[<-l,List.map_append]
   have t:a.2.length+1=s.length:=by simp[<-g,<-l]<;>omega
   rw[t] at q;cases h;exact ZL (ZA d (ZA (aM m) (ZA j (ZA u (ZA p (ZA q (ZA w t))))))) (ZA e (ZA g.symm (ZA l.symm p)))
  ·cases h;exact ZL (ZA d (ZA (aM m) j)) e
 ·cases h;exact ZL d e
theorem w_eo(a:ah)(b:Int×List (List Int))(o:(Int×List (List Int))⊕(List (List Int)))(h:AD a b=some o):AWP (OkS Tryz.prog) MG (qL [1,3,4] [1,3] (S_e a) (qX 0 [1,3] [1,3] (ur a)) o) (S_e a b):=by
 have e:=ZA @S_e.eq_1 @ur.eq_1;unfold AD at h;simp only[ZC,S_e,MG];obtain⟨c,h⟩|⟨c,h⟩:=aq h
 ·obtain⟨s,t,h⟩:=ae h;try refine ZF c ?_
  refine aw (aY (aC (w_ai a b) t ?_)) ?_
  ·exact ZK (ZA @Fw.eq_1 @zf.eq_1)
  ·simp only[ZC,zf,SI];obtain⟨g,h⟩|⟨g,h⟩:=aq h
   ·obtain⟨j,d,h⟩:=aO h;have v:Row.arr 1 [(.lst .u 1 (s.map AV.i):AV)]=Row.arr 1 (j.map (bI .u)):=by rw[<-d];rfl
    have l:j.length=1:=by rw[<-d];rfl
    obtain⟨y,w,h⟩:=ae h;have m:=aI w;obtain⟨p,k,h⟩:=aO h;have x:b.2.map (bI .u)++j.map (bI .u)=p.map (bI .u):=by rw[<-k,List.map_append]
    have q:b.2.length+1=p.length:=by simp[<-d,<-k]<;>omega
    rw[q] at m;cases h;exact ZL (ZA c (ZA g (ZA v (ZA l (ZA m (ZA x q)))))) (ZA e (ZA d.symm (ZA k.symm l)))
   ·cases h;exact ZL (ZA c g) e
 ·cases h;exact ZL c e
def HC(a:ah)(v:Int×List (List Int)):St:=⟨[(3,.sl 3 0 v.2.length),(41,.lst .o 4 (a.Fibers.map (ai .o))),(42,.i (a.Fibers.length:Int)),(43,.i v.1)],[(3,.arr 1 (v.2.map (bI .u)))]⟩
theorem w_bx(j:ah)(a:Int×List (List Int))(o:(Int×List (List Int))⊕(List (List Int)))(h:BU j a=some o):AWP (OkS Tryz.prog) HT (qL [3,41,42,43] [3] (HC j) (qX 4 [3] [3] (tG)) o) (HC j a):=by
 have e:=ZA @HC.eq_1 @tG.eq_1;unfold BU at h;simp only[ZC,HC,HT];obtain⟨d,h⟩|⟨d,h⟩:=aq h
 ·obtain⟨c1,p,h⟩:=ae h;obtain⟨k,h⟩|⟨k,h⟩:=aq h
  ·obtain⟨b,c,h⟩:=aO h;have x:Row.arr 1 [(.i a.1:AV)]=Row.arr 1 (b.map AV.i):=by rw[<-c];rfl
   have q:b.length=1:=by rw[<-c];rfl
   have y:sub (b.map AV.i) 0 1=b.map AV.i:=yp _ (by simp[<-c]);obtain⟨l,g,h⟩:=aO h;have z:Row.arr 1 [(.lst .u 1 (b.map AV.i):AV)]=Row.arr 1 (l.map (bI .u)):=by rw[<-g];rfl
   have s:l.length=1:=by rw[<-g];rfl
   obtain⟨d1,a1,h⟩:=ae h;have t:=aI a1;obtain⟨v,m,h⟩:=aO h;have b1:a.2.map (bI .u)++l.map (bI .u)=v.map (bI .u):=by rw[<-m,List.map_append]
   have w:a.2.length+1=v.length:=by simp[<-c,<-g,<-m]<;>omega
   rw[w] at t;cases h;exact ZL (ZA d (ZA (aM p) (ZA k (ZA x (ZA q (ZA y (ZA z (ZA s (ZA t (ZA b1 w)))))))))) (ZA e (ZA c.symm (ZA g.symm (ZA m.symm (ZA q s)))))
  ·cases h;exact ZL (ZA d (ZA (aM p) k)) e
 ·cases h;exact ZL d e
theorem Ix(a:ah){r:List (List Int)}(h:sG a=some r):Ok Tryz.prog 78 [.agg [.lst .o 1 (a.Nodes.map AV.z),.lst .o 4 (a.Fibers.map (ai .o))]] (.lst .u 1 (r.map (bI .u))):=by
 refine aA bd m78 rfl ?_;unfold sG at h;simp only[ZC,A78,V10,aJ];obtain⟨d,b,h⟩:=ae h;try refine ZF trivial ?_
 refine aw (aY (aC (w_eo a) b ?_)) ?_
 ·exact ZK (ZA @S_e.eq_1 @ur.eq_1)
 ·simp only[ZC,ur,Su];obtain⟨g,c,h⟩:=ae h;try refine ZF trivial ?_
  refine aw (aY (aC (w_bx a) c ?_)) ?_
  ·exact ZK (ZA @HC.eq_1 @tG.eq_1)
  ·simp only[ZC,tG,Sx];cases h;exact ZL trivial @V10.eq_1
theorem w_gp(a:List Int)(p1Z0:Int){r:Bool}(h:MN a p1Z0=some r):Ok Tryz.prog 248 [.lst .o 1 (a.map AV.i),.bp .o (.i p1Z0) 0] (.b r):=by
 refine aA bd m248 rfl ?_;unfold MN at h;simp only[ZC,A248,BN,aJ];obtain⟨d,c,h⟩:=ae h;refine ZF trivial ?_;refine ZSG trivial (Ou _ _ c) ?_;cases h;exact ZL trivial @BN.eq_1
def KT(a:List (List Int))(F_fZ0:Nat)(C_fZ0:List AV)(v:Int):St:=⟨[(0,.lst .o 1 (a.map (bI .o))),(1,.fn F_fZ0 C_fZ0),(7,.i (a.length:Int)),(8,.i v)],[]⟩
theorem w_cp(c:List (List Int))(j:(List Int)->Option Bool)(F_fZ0:Nat)(C_fZ0:List AV)(hC_fZ0:rd C_fZ0)(hf_fZ0:∀(x0:List Int)(r:Bool),j x0=some r->Ok Tryz.prog F_fZ0 ((.lst .o 1 (x0.map AV.i))::C_fZ0) (.b r))(k:Int)(o:Int⊕(Unit⊕Int))(h:DU c j k=some o):AWP (OkS Tryz.prog) xi (qL [0,1,7,8] [] (KT c F_fZ0 C_fZ0) (qS (qX 0 [] [] (bR)) (qR az (fun r=>.i r))) o) (KT c F_fZ0 C_fZ0 k):=by
 have e:=ZA @KT.eq_1 @bR.eq_1;unfold DU at h;simp only[ZC,KT,xi];obtain⟨a,h⟩|⟨a,h⟩:=aq h
 ·obtain⟨m,d,h⟩:=ae h;obtain⟨p,l,h⟩:=ae h;have f:=ZA a (aM d);refine ZF f ?_;have f:=ZA f hC_fZ0.1;refine ZSG f (hf_fZ0 _ _ l) ?_;obtain⟨g,h⟩|⟨g,h⟩:=aq h
  ·cases h;exact ZL (ZA a (ZA (aM d) g)) (ZA @az.eq_1 (ZA hC_fZ0.2 ((dk hC_fZ0))))
  ·cases h;exact ZL (ZA a (ZA (aM d) g)) (ZA e (ZA hC_fZ0.2 ((dk hC_fZ0))))
 ·cases h;exact ZL a (ZA e (ZA hC_fZ0.2 ((dk hC_fZ0))))
theorem w_gq(a:List (List Int))(c:(List Int)->Option Bool){r:Int}(h:My a c=some r)(F_fZ0:Nat)(C_fZ0:List AV)(hC_fZ0:rd C_fZ0)(hf_fZ0:∀(x0:List Int)(r:Bool),c x0=some r->Ok Tryz.prog F_fZ0 ((.lst .o 1 (x0.map AV.i))::C_fZ0) (.b r)):Ok Tryz.prog 247 [.lst .o 1 (a.map (bI .o)),.fn F_fZ0 C_fZ0] (.i r):=by
 refine aA bd m247 rfl ?_;unfold My at h;simp only[ZC,A247,az,aJ];obtain⟨d,g,h⟩:=ae h;try refine ZF trivial ?_
 refine bo (o:=d) (bu cJ (aC (w_cp a c F_fZ0 C_fZ0 hC_fZ0 hf_fZ0) g ?_)) (fun k hv=>?_) (fun l hv e τ hne hq=>?_)
 ·exact ZK (ZA @KT.eq_1 (ZA @bR.eq_1 (ZA hC_fZ0.2 ((dk hC_fZ0)))))
 ·subst hv;simp only[] at h;simp only[ZC,bR,Ke];cases h;exact ZL trivial (ZA @az.eq_1 (ZA hC_fZ0.2 ((dk hC_fZ0))))
 ·subst hv;simp only[] at h;obtain⟨rfl,j⟩:=hq;cases h;exact j
theorem w_gr(a:ah)(b:Int){r:Int}(h:JL a b=some r):Ok Tryz.prog 230 [.agg [.lst .o 1 (a.Nodes.map AV.z),.lst .o 4 (a.Fibers.map (ai .o))],.i b] (.i r):=by
 refine aA bd m230 rfl ?_;unfold JL at h;simp only[ZC,A230,az,aJ];obtain⟨g,c,h⟩:=ae h;refine ZF trivial ?_;refine ZUG trivial (Ix _ c) ?_;obtain⟨j,d,h⟩:=ae h;refine ZF trivial ?_;refine ZSG trivial (w_gq _ _ d 248 [.bp .o (.i b) 0] ⟨fun ρ k=>by simp only[VS1,VS2,VS3,VS4,VS5,VS6,VT1,VT2,ch,cg,decide_true,decide_false,List.nodup_nil,List.nodup_cons,fy,fA,fC,ne_eq,not_false_eq_true,Int.reduceEq,Int.reduceNe,true_and,false_and,Nat.reduceSub,Nat.reduceMul,↓reduceIte,reduceCtorEq,Nat.reduceEqDiff,Nat.reduceAdd,Nat.reduceLeDiff,Int.reduceLE],by simp[aN,AV.ments]⟩ (fun _ _ h=>w_gp _ _ h)) ?_;cases h;exact ZL trivial @az.eq_1
def Lo(a:ah)(b:List Int)(v:Int×List Int):St:=⟨[(2,.pt 2 0 0),(5,.sl 5 0 v.2.length),(9,.lst .o 1 (b.map AV.i)),(10,.i (b.length:Int)),(11,.i v.1)],[(2,.var (.agg [.lst .o 1 (a.Nodes.map AV.z),.lst .o 4 (a.Fibers.map (ai .o))])),(5,.arr 1 (v.2.map AV.i))]⟩
theorem w_cq(c:ah)(d:List Int)(a:Int×List Int)(o:(Int×List Int)⊕(List Int))(h:Cx c d a=some o):AWP (OkS Tryz.prog) ws (qL [2,5,9,10,11] [2,5] (Lo c d) (qX 0 [5] [5] (jY)) o) (Lo c d a):=by
 have e:=ZA @Lo.eq_1 @jY.eq_1;unfold Cx at h;simp only[ZC,Lo,ws];obtain⟨g,h⟩|⟨g,h⟩:=aq h
 ·obtain⟨y,s,h⟩:=ae h;obtain⟨t,u,h⟩:=ae h;have f:=ZA g (aM s);refine ZF f ?_;refine ZSG f (w_gr _ _ u) ?_;obtain⟨j,b,h⟩:=aO h;have v:Row.arr 1 [(.i t:AV)]=Row.arr 1 (j.map AV.i):=by rw[<-b];rfl
  have l:j.length=1:=by rw[<-b];rfl
  obtain⟨z,w,h⟩:=ae h;have m:=aI w;obtain⟨p,k,h⟩:=aO h;have x:a.2.map AV.i++j.map AV.i=p.map AV.i:=by rw[<-k,List.map_append]
  have q:a.2.length+1=p.length:=by simp[<-b,<-k]<;>omega
  rw[q] at m;cases h;exact ZL (ZA f (ZA v (ZA l (ZA m (ZA x q))))) (ZA e (ZA b.symm (ZA k.symm l)))
 ·cases h;exact ZL g e
theorem w_el(a:ah)(b:List Int){r:List Int}(h:Dj a b=some r):Ok Tryz.prog 202 [.agg [.lst .o 1 (a.Nodes.map AV.z),.lst .o 4 (a.Fibers.map (ai .o))],.lst .o 1 (b.map AV.i)] (.lst .u 1 (r.map AV.i)):=by
 refine aA bd m202 rfl ?_;unfold Dj at h;simp only[ZC,A202,az,aJ];obtain⟨d,c,h⟩:=ae h;try refine ZF trivial ?_
 refine aw (aY (aC (w_cq a b) c ?_)) ?_
 ·exact ZK (ZA @Lo.eq_1 @jY.eq_1)
 ·simp only[ZC,jY,Et];cases h;exact ZL trivial @az.eq_1
theorem w_hk(d:Int){r:Int}(h:SN d=some r):Ok Tryz.prog 259 [.sc (.int .u64 d)] (.i r):=by
 refine aA bd m259 rfl ?_;unfold SN at h;simp only[ZC,A259,V10,aJ];obtain⟨g,j,h⟩:=ae h;try refine ZF trivial ?_
 refine aw (sh:=(fun v=>⟨[(0,.sc (.int .u64 v.1)),(2,.i v.2)],[]⟩)) (s:=g) ?_ ?_
 ·replace h:=j;obtain⟨a,h⟩|⟨a,h⟩:=aq h
  ·cases h;exact ZL a trivial
  ·cases h;exact ZL a trivial
 ·simp only[ZC,Er];obtain⟨k,l,h⟩:=ae h;try refine ZF trivial ?_
  refine aw (sh:=(fun v=>⟨[(0,.sc (.int .u64 v.1)),(2,.i v.2)],[]⟩)) (s:=k) ?_ ?_
  ·replace h:=l;obtain⟨b,h⟩|⟨b,h⟩:=aq h
   ·cases h;exact ZL b trivial
   ·cases h;exact ZL b trivial
  ·simp only[ZC,HN];obtain⟨m,p,h⟩:=ae h;try refine ZF trivial ?_
   refine aw (sh:=(fun v=>⟨[(0,.sc (.int .u64 v.1)),(2,.i v.2)],[]⟩)) (s:=m) ?_ ?_
   ·replace h:=p;obtain⟨c,h⟩|⟨c,h⟩:=aq h
    ·cases h;exact ZL c trivial
    ·cases h;exact ZL c trivial
   ·simp only[ZC,HK];obtain⟨t,q,h⟩:=ae h;cases h;exact ZL (jF q) @V10.eq_1
theorem w_eu(a:Int){r:Int}(h:Mi a=some r):Ok Tryz.prog 232 [.sc (.int .u64 a)] (.i r):=by
 refine aA bd m232 rfl ?_;unfold Mi at h;simp only[ZC,A232,V10,aJ];obtain⟨c,b,h⟩:=ae h;refine ZF trivial ?_;refine ZSG trivial (w_hk _ b) ?_;cases h;exact ZL trivial @V10.eq_1
theorem w_es(d:Int)(g:Int){r:Bool}(h:Lz d g=some r):Ok Tryz.prog 255 [.i d,.i g] (.b r):=by
 refine aA bd m255 rfl ?_;unfold Lz at h;simp only[ZC,A255,az,aJ];obtain⟨l,j,h⟩:=ae h;refine ZF trivial ?_;refine ZSG trivial (Np _ j) ?_;obtain⟨a,h⟩|⟨a,h⟩:=aq h
 ·obtain⟨m,k,h⟩:=ae h;refine ZF a ?_;refine ZSG a (Np _ k) ?_;obtain⟨c,h⟩|⟨c,h⟩:=aq h
  ·cases h;exact ZL (ZA a c) @az.eq_1
  ·cases h;exact ZL (ZA a c) @az.eq_1
 ·cases h;exact ZL a @az.eq_1
def S_n(a:Int)(b:Int)(c:Int×List Int)(v:Int×List Int):St:=⟨[(0,.sl 1000000000 0 v.2.length),(1,.i a),(2,.i b),(6,.i c.1),(7,.i v.1)],[(1000000000,.arr 1 (v.2.map AV.i))]⟩
def Qe(a:Int)(b:Int)(c:Int×List Int)(v:List Int):St:=⟨[(0,.sl 1000000000 0 v.length),(1,.i a),(2,.i b),(6,.i c.1)],[(1000000000,.arr 1 (v.map AV.i))]⟩
theorem w_n(c:Int)(d:Int)(g:Int×List Int)(a:Int×List Int)(o:(Int×List Int)⊕(List Int))(h:M_n c a=some o):AWP (OkS Tryz.prog) nL (qL [0,1,2,6,7] [1000000000] (S_n c d g) (qX 2 [0,1,2,6] [1000000000] (Qe c d g)) o) (S_n c d g a):=by
 have e:=ZA @S_n.eq_1 @Qe.eq_1;unfold M_n at h;simp only[ZC,S_n,nL];obtain⟨q,t,h⟩:=ae h;try refine ZF trivial ?_
 refine aw (sh:=(fun v=>⟨[(0,.sl 1000000000 0 a.2.length),(1,.i c),(2,.i d),(6,.i g.1),(7,.i a.1),(30,.b v)],[(1000000000,.arr 1 (a.2.map AV.i))]⟩)) (s:=q) ?_ ?_
 ·replace h:=t;obtain⟨j,h⟩|⟨j,h⟩:=aq h
  ·obtain⟨p1,u,h⟩:=ae h;obtain⟨q1,w,h⟩:=ae h;obtain⟨s1,x,h⟩:=ae h;obtain⟨t1,y,h⟩:=ae h;obtain⟨u1,z,h⟩:=ae h;have f:=ZA j (ZA (aI u) (ZA w (ZA (aI x) y)));refine ZF f ?_;refine ZSG f (w_es _ _ z) ?_;cases h;exact ZL f trivial
  ·cases h;exact ZL j trivial
 ·simp only[ZC,vj];obtain⟨k,h⟩|⟨k,h⟩:=aq h
  ·obtain⟨v1,a1,h⟩:=ae h;obtain⟨b1,c1,h⟩:=ae h;obtain⟨w1,d1,h⟩:=ae h;obtain⟨g1,i1,h⟩:=ae h;obtain⟨l,m,h⟩:=aO h;have j1:(a.2.map AV.i).set (Int.toNat a.1) (.i b1)=l.map AV.i:=by rw[<-m,List.map_set]
   obtain⟨x1,k1,h⟩:=ae h;obtain⟨l1,p,h⟩:=aO h;have m1:(l.map AV.i).set (Int.toNat (IntKind.wrap .i64 (a.1-1))) (.i g1)=l1.map AV.i:=by rw[<-p,List.map_set]
   cases h;exact ZL (ZA k (ZA (aI a1) (ZA c1 (ZA (aI d1) (ZA i1 (ZA j1 (ZA k1 m1))))))) (ZA e (ZA m.symm p.symm))
  ·cases h;exact ZL k e
def S_s(a:Int)(b:Int)(v:Int×List Int):St:=⟨[(0,.sl 1000000000 0 v.2.length),(1,.i a),(2,.i b),(6,.i v.1)],[(1000000000,.arr 1 (v.2.map AV.i))]⟩
def Nu(v:List Int):St:=⟨[],[(1000000000,.arr 1 (v.map AV.i))]⟩
theorem w_s(a:Int)(b:Int)(c:Int×List Int)(o:(Int×List Int)⊕(List Int))(h:M_s a b c=some o):AWP (OkS Tryz.prog) oz (qL [0,1,2,6] [1000000000] (S_s a b) (qX 0 [] [1000000000] (Nu)) o) (S_s a b c):=by
 have e:=ZA @S_s.eq_1 @Nu.eq_1;unfold M_s at h;simp only[ZC,S_s,oz];obtain⟨d,h⟩|⟨d,h⟩:=aq h
 ·obtain⟨k,l,h⟩:=ae h;try refine ZF d ?_
  refine aw (sh:=(fun v=>⟨[(0,.sl 1000000000 0 v.length),(1,.i a),(2,.i b),(6,.i c.1)],[(1000000000,.arr 1 (v.map AV.i))]⟩)) (s:=k) ?_ ?_
  ·replace h:=l;obtain⟨m,g,h⟩:=ae h;try refine ZF d ?_
   first|refine cK (aY (aC (w_n a b c) g ?_)) (fun τ j=>?_)|refine dx (aC (w_n a b c) g ?_) (fun τ j=>?_)
   ·exact ZK (ZA @S_n.eq_1 @Qe.eq_1)
   ·cases h;try refine ZF trivial ?_
    refine⟨rfl,Shp.sub j (by decide) (by decide) ?_⟩;exact ZK @Qe.eq_1
  ·simp only[ZC,ti];cases h;exact ZL d e
 ·cases h;exact ZL d e
theorem w_et(a:Int)(b:Int)(c:List Int){r:List Int}(h:EI a b c=some r):OkM Tryz.prog 249 [.sl 1000000000 0 c.length,.i a,.i b] [(1000000000,.arr 1 (c.map AV.i))] (.tup []) ([(1000000000,.arr 1 (r.map AV.i))]):=by
 refine aZ (lr:=[1000000000]) bd UT rfl rfl ?_;unfold EI at h;simp only[ZC,LP,cy];obtain⟨j,d,h⟩:=ae h;try refine ZF trivial ?_
 first|refine cK (aY (aC (w_s a b) d ?_)) (fun τ g=>?_)|refine dx (aC (w_s a b) d ?_) (fun τ g=>?_)
 ·exact ZK (ZA @S_s.eq_1 @Nu.eq_1)
 ·cases h;refine lN g (by decide) ?_ rfl;exact ZK (ZA @cy.eq_1 @Nu.eq_1)
def NJ(c:Int)(d:Int)(g:Int)(a:List Int)(v:Unit):St:=⟨[(0,.sl 1000000000 0 a.length),(1,.i c),(2,.i d),(3,.i g),(8,.b true),(9,.b true)],[(1000000000,.arr 1 (a.map AV.i))]⟩
def RU(v:Empty):St:=⟨[],[]⟩
theorem w_bl(b:Int)(c:Int)(d:Int)(g:List Int)(j:Unit)(o:Unit⊕(Empty⊕(List Int)))(h:Nd b c d g j=some o):AWP (OkS Tryz.prog) nv (qL [0,1,2,3,8,9] [1000000000] (NJ b c d g) (qS (qX 0 [] [] (RU)) (qM cy [1000000000] (fun(r:List Int)=>.tup []) (fun(r:List Int)=>[(1000000000,.arr 1 (r.map AV.i))]))) o) (NJ b c d g j):=by
 unfold Nd at h;simp only[ZC,NJ,nv];obtain⟨a,h⟩|⟨a,h⟩:=aq h
 ·obtain⟨m,k,h⟩:=ae h;refine ZF a ?_;refine ZWG a (w_et _ _ _ k) [1000000000] [] ?_;cases h;exact ZL a @cy.eq_1
 ·obtain⟨l,h⟩|⟨l,h⟩:=aq h
  ·cases h
  ·cases h
theorem w_gw(b:Int)(c:Int)(d:Int)(a:List Int){r:List Int}(h:Oc b c d a=some r):OkM Tryz.prog 231 [.sl 1000000000 0 a.length,.i b,.i c,.i d] [(1000000000,.arr 1 (a.map AV.i))] (.tup []) ([(1000000000,.arr 1 (r.map AV.i))]):=by
 refine aZ (lr:=[1000000000]) bd Ul rfl rfl ?_;unfold Oc at h;simp only[ZC,Ik,cy];obtain⟨g,j,h⟩:=ae h;try refine ZF trivial ?_
 first|refine jP (o:=g) (bu lC (aC (w_bl b c d a) j ?_)) (fun k hv τ l=>?_) (fun m hv e τ hne hq=>?_)|refine pA (o:=g) lC (aC (w_bl b c d a) j ?_) (fun k hv τ l=>?_) (fun m hv e τ hne hq=>?_)
 ·exact ZK (ZA @NJ.eq_1 @RU.eq_1)
 ·exact k.elim
 ·subst hv;simp only[] at h;obtain⟨rfl,p⟩:=hq;cases h;exact p
theorem w_ev(a:List Int){r:List Int}(h:KN a=some r):OkM Tryz.prog 203 [.sl 1000000000 0 a.length] [(1000000000,.arr 1 (a.map AV.i))] (.tup []) ([(1000000000,.arr 1 (r.map AV.i))]):=by
 refine aZ (lr:=[1000000000]) bd Ty rfl rfl ?_;unfold KN at h;simp only[ZC,Ib,cy];obtain⟨d,b,h⟩:=ae h;refine ZF trivial ?_;refine ZSG trivial (w_eu _ b) ?_;obtain⟨g,c,h⟩:=ae h;refine ZF trivial ?_;refine ZWG trivial (w_gw _ _ _ _ c) [1000000000] [] ?_;cases h;exact ZL trivial @cy.eq_1
def S_w(a:Nat)(b:Nat)(c:Int)(v:Int×Int×List Int):St:=⟨[(0,.sl 1000000000 a b),(3,.i v.1),(4,.sl 1000000000 (a+(Int.toNat c)) (b-(Int.toNat c))),(5,.i v.2.1)],[(1000000000,.arr 1 (v.2.2.map AV.i))]⟩
def PB(a:Nat)(b:Nat)(v:Int×List Int):St:=⟨[(0,.sl 1000000000 a b),(3,.i v.1)],[(1000000000,.arr 1 (v.2.map AV.i))]⟩
theorem w_w(a:Nat)(b:Nat)(g:Int)(c:Int×Int×List Int)(o:(Int×Int×List Int)⊕(Int×List Int))(h:M_w a b g c=some o):AWP (OkS Tryz.prog) og (qL [0,3,4,5] [1000000000] (S_w a b g) (qX 2 [0,3] [1000000000] (PB a b)) o) (S_w a b g c):=by
 have e:=ZA @S_w.eq_1 @PB.eq_1;unfold M_w at h;simp only[ZC,S_w,og];obtain⟨d,h⟩|⟨d,h⟩:=aq h
 ·obtain⟨x,k,h⟩:=ae h;obtain⟨s,l,h⟩:=ae h;obtain⟨y,m,h⟩:=ae h;obtain⟨z,p,h⟩:=ae h;obtain⟨j,h⟩|⟨j,h⟩:=aq h
  ·obtain⟨a1,t,h⟩:=ae h;obtain⟨b1,u,h⟩:=ae h;obtain⟨v,q,h⟩:=aO h;have w:(c.2.2.map AV.i).set (a+(Int.toNat c.1)) (.i s)=v.map AV.i:=by rw[<-q,List.map_set]
   cases h;exact ZL (ZA d (ZA (aI k) (ZA l (ZA (aI m) (ZA p (ZA j (ZA (aI t) (ZA u w)))))))) (ZA e q.symm)
  ·cases h;exact ZL (ZA d (ZA (aI k) (ZA l (ZA (aI m) (ZA p j))))) e
 ·cases h;exact ZL d e
def Jx(a:Nat)(b:Nat)(c:List Int)(v:Int):St:=⟨[(0,.sl 1000000000 a b),(3,.i v)],[(1000000000,.arr 1 (c.map AV.i))]⟩
def zw(a:Nat)(b:Nat)(c:List Int)(v:Unit):St:=⟨[(0,.sl 1000000000 a b)],[(1000000000,.arr 1 (c.map AV.i))]⟩
theorem w_ak(a:Nat)(b:Nat)(c:List Int)(j:Int)(o:Int⊕(Unit⊕(Nat×Nat×List Int)))(h:CL a b c j=some o):AWP (OkS Tryz.prog) nt (qL [0,3] [1000000000] (Jx a b c) (qS (qX 0 [0] [1000000000] (zw a b c)) (qM V10 [1000000000] (fun(r:Nat×Nat×List Int)=>.sl 1000000000 r.1 r.2.1) (fun(r:Nat×Nat×List Int)=>[(1000000000,.arr 1 (r.2.2.map AV.i))]))) o) (Jx a b c j):=by
 have e:=ZA @Jx.eq_1 @zw.eq_1;unfold CL at h;simp only[ZC,Jx,nt];obtain⟨d,h⟩|⟨d,h⟩:=aq h
 ·obtain⟨a1,l,h⟩:=ae h;obtain⟨b1,m,h⟩:=ae h;obtain⟨c1,p,h⟩:=ae h;obtain⟨d1,q,h⟩:=ae h;obtain⟨k,h⟩|⟨k,h⟩:=aq h
  ·obtain⟨g1,v,h⟩:=ae h;obtain⟨g,w,h⟩:=ae h;have f:=ZA d (ZA (aI l) (ZA m (ZA (aI p) (ZA q (ZA k (aI v))))));try refine ZF f ?_
   refine aw (aY (aC (w_w a b j) w ?_)) ?_
   ·exact ZK (ZA @S_w.eq_1 @PB.eq_1)
   ·simp only[ZC,PB,tF];obtain⟨i1,x,h⟩:=ae h;obtain⟨s,t,h⟩:=aO h;have u:fq (g.2.map AV.i) (a+(Int.toNat g.1)) (List.replicate (b-(Int.toNat g.1)) (.i 0:AV))=s.map AV.i:=by rw[<-t,<-KB]<;>simp[List.map_take]
    try simp only[Int.toNat_natCast] at u
    have y:s.length=g.2.length:=by rw[<-t];exact uF _ _ _
    obtain⟨j1,z,h⟩:=ae h;cases h;exact ZL (ZA f (ZA (aI x) (ZA u (aI z)))) (ZA @V10.eq_1 y)
  ·cases h;exact ZL (ZA d (ZA (aI l) (ZA m (ZA (aI p) (ZA q k))))) e
 ·cases h;exact ZL d e
theorem w_fg(b:Nat)(c:Nat)(d:List Int){r:Nat×Nat×List Int}(h:Fd b c d=some r):OkM Tryz.prog 204 [.sl 1000000000 b c] [(1000000000,.arr 1 (d.map AV.i))] (.sl 1000000000 r.1 r.2.1) ([(1000000000,.arr 1 (r.2.2.map AV.i))]):=by
 refine aZ (lr:=[1000000000]) bd SV rfl rfl ?_;unfold Fd at h;simp only[ZC,Gy,V10];obtain⟨a,h⟩|⟨a,h⟩:=aq h
 ·cases h;exact ZL a @V10.eq_1
 ·obtain⟨g,j,h⟩:=ae h;try refine ZF a ?_
  refine bo (o:=g) (bu lC (aC (w_ak b c d) j ?_)) (fun l hv=>?_) (fun m hv e τ hne hq=>?_)
  ·exact ZK (ZA @Jx.eq_1 @zw.eq_1)
  ·subst hv;simp only[] at h;simp only[ZC,zw,ul];cases h;exact ZL a @V10.eq_1
  ·subst hv;simp only[] at h;obtain⟨rfl,k⟩:=hq;cases h;exact k
def EM(a:List Int)(b:List Int)(v:Int×List Int):St:=⟨[(1,.lst .o 1 (b.map AV.i)),(5,.sl 5 0 v.2.length),(9,.lst .o 1 (a.map AV.i)),(10,.i (a.length:Int)),(11,.i v.1)],[(5,.arr 1 (v.2.map AV.i))]⟩
theorem w_bo(c:List Int)(d:List Int)(a:Int×List Int)(o:(Int×List Int)⊕(List Int))(h:wt c d a=some o):AWP (OkS Tryz.prog) xZ (qL [1,5,9,10,11] [5] (EM c d) (qX 0 [5] [5] (jY)) o) (EM c d a):=by
 have e:=ZA @EM.eq_1 @jY.eq_1;unfold wt at h;simp only[ZC,EM,xZ];obtain⟨g,h⟩|⟨g,h⟩:=aq h
 ·obtain⟨t,u,h⟩:=ae h;obtain⟨z,v,h⟩:=ae h;have f:=ZA g (aM u);refine ZF f ?_;refine ZSG f (Ou _ _ v) ?_;obtain⟨j,h⟩|⟨j,h⟩:=aq h
  ·obtain⟨k,b,h⟩:=aO h;have w:Row.arr 1 [(.i t:AV)]=Row.arr 1 (k.map AV.i):=by rw[<-b];rfl
   have m:k.length=1:=by rw[<-b];rfl
   obtain⟨a1,x,h⟩:=ae h;have p:=aI x;obtain⟨q,l,h⟩:=aO h;have y:a.2.map AV.i++k.map AV.i=q.map AV.i:=by rw[<-l,List.map_append]
   have s:a.2.length+1=q.length:=by simp[<-b,<-l]<;>omega
   rw[s] at p;cases h;exact ZL (ZA f (ZA j (ZA w (ZA m (ZA p (ZA y s)))))) (ZA e (ZA b.symm (ZA l.symm m)))
  ·cases h;exact ZL (ZA f j) e
 ·cases h;exact ZL g e
theorem Pa(a:List Int)(b:List Int){r:List Int}(h:tL a b=some r):Ok Tryz.prog 140 [.lst .o 1 (a.map AV.i),.lst .o 1 (b.map AV.i)] (.lst .u 1 (r.map AV.i)):=by
 refine aA bd m140 rfl ?_;unfold tL at h;simp only[ZC,A140,az,aJ];obtain⟨p,d,h⟩:=ae h;try refine ZF trivial ?_
 refine aw (aY (aC (w_bo a b) d ?_)) ?_
 ·exact ZK (ZA @EM.eq_1 @jY.eq_1)
 ·simp only[ZC,jY,HM];obtain⟨q,g,h⟩:=ae h;refine ZF trivial ?_;refine ZWG trivial (w_ev _ g) [1000000000] [] ?_;obtain⟨c,j,h⟩:=ae h;refine ZF trivial ?_;refine ZWG trivial (w_fg _ _ _ j) [1000000000] [] ?_;obtain⟨k,l,h⟩:=aO h;have m:sub (c.2.2.map AV.i) c.1 c.2.1=k.map AV.i:=by rw[bP,l]
  cases h;exact ZL m @az.eq_1
theorem w_em(a:ah)(c:List Int)(d:List Int){r:Bool}(h:Dn a c d=some r):Ok Tryz.prog 136 [.agg [.lst .o 1 (a.Nodes.map AV.z),.lst .o 4 (a.Fibers.map (ai .o))],.lst .o 1 (c.map AV.i),.lst .o 1 (d.map AV.i)] (.b r):=by
 refine aA bd m136 rfl ?_;unfold Dn at h;simp only[ZC,A136,bJ,aJ];obtain⟨l,g,h⟩:=ae h;refine ZF trivial ?_;refine ZUG trivial (w_el _ _ g) ?_;obtain⟨m,j,h⟩:=ae h;refine ZF trivial ?_;refine ZUG trivial (w_el _ _ j) ?_;obtain⟨p,k,h⟩:=ae h;refine ZF trivial ?_;refine ZUG trivial (Pa _ _ k) ?_;cases h;exact ZL trivial @bJ.eq_1
theorem w_gd(d:ah)(a:af){r:Bool}(h:FD d a=some r):Ok Tryz.prog 94 [.agg [.lst .o 1 (d.Nodes.map AV.z),.lst .o 4 (d.Fibers.map (ai .o))],.agg [.i a.Id,.i a.Class,.i a.Work.Start,.lst .o 1 (a.Work.Fibers.map AV.i),.i a.WorkBlock.First,.i a.WorkBlock.Count,.i a.Spare.Start,.lst .o 1 (a.Spare.Fibers.map AV.i),.i a.SpareBlock.First,.i a.SpareBlock.Count]] (.b r):=by
 have e:=@az.eq_1;refine aA bd m94 rfl ?_;unfold FD at h;simp only[ZC,A94,az,aJ];obtain⟨c1,k1,h⟩:=ae h;refine ZF trivial ?_;refine ZUG trivial (w_ds _ _ k1) ?_;obtain⟨l1,m1,h⟩:=ae h;try refine ZF trivial ?_
 refine aw (sh:=(fun v=>⟨[(2,.pt 2 0 0),(3,.pt 3 0 0),(5,.sl 5 0 c1.1.length),(35,.b v)],[(2,.var (.agg [.lst .o 1 (d.Nodes.map AV.z),.lst .o 4 (d.Fibers.map (ai .o))])),(3,.var (.agg [.i a.Id,.i a.Class,.i a.Work.Start,.lst .o 1 (a.Work.Fibers.map AV.i),.i a.WorkBlock.First,.i a.WorkBlock.Count,.i a.Spare.Start,.lst .o 1 (a.Spare.Fibers.map AV.i),.i a.SpareBlock.First,.i a.SpareBlock.Count])),(5,.arr 1 (c1.1.map AV.i))]⟩)) (s:=l1) ?_ ?_
 ·replace h:=m1;obtain⟨y1,p1,h⟩:=ae h;refine ZF trivial ?_;refine ZSG trivial (w_h _ _ _ p1) ?_;obtain⟨c,h⟩|⟨c,h⟩:=aq h
  ·cases h;exact ZL c trivial
  ·obtain⟨z1,q1,h⟩:=ae h;refine ZF c ?_;refine ZSG c (w_h _ _ _ q1) ?_;obtain⟨j,h⟩|⟨j,h⟩:=aq h
   ·cases h;exact ZL (ZA c j) trivial
   ·obtain⟨p,h⟩|⟨p,h⟩:=aq h
    ·cases h;exact ZL (ZA c (ZA j p)) trivial
    ·obtain⟨a2,s1,h⟩:=ae h;have f:=ZA c (ZA j p);refine ZF f ?_;refine ZSG f (w_ek _ s1) ?_;cases h;exact ZL f trivial
 ·simp only[ZC,SK];obtain⟨k,h⟩|⟨k,h⟩:=aq h
  ·cases h;exact ZL k e
  ·obtain⟨q,h⟩|⟨q,h⟩:=aq h
   ·obtain⟨t1,u1,h⟩:=ae h;have f:=ZA k q;try refine ZF f ?_
    refine aw (sh:=(fun v=>⟨[(4,.b v)],[]⟩)) (s:=t1) ?_ ?_
    ·replace h:=u1;obtain⟨l,h⟩|⟨l,h⟩:=aq h
     ·obtain⟨t,h⟩|⟨t,h⟩:=aq h
      ·cases h;exact ZL (ZA f (ZA l t)) trivial
      ·cases h;exact ZL (ZA f (ZA l t)) trivial
     ·cases h;exact ZL (ZA f l) trivial
    ·simp only[ZC,Sl];cases h;exact ZL f e
   ·obtain⟨b2,v1,h⟩:=ae h;have f:=ZA k q;refine ZF f ?_;refine ZUG f (w_ds _ _ v1) ?_;obtain⟨u,h⟩|⟨u,h⟩:=aq h
    ·obtain⟨c2,w1,h⟩:=ae h;have f:=ZA f u;refine ZF f ?_;refine ZSG f (w_ek _ w1) ?_;obtain⟨g,h⟩|⟨g,h⟩:=aq h
     ·obtain⟨d2,w,h⟩:=ae h;obtain⟨g2,x,h⟩:=ae h;obtain⟨i2,y,h⟩:=ae h;obtain⟨j2,a1,h⟩:=ae h;obtain⟨m,h⟩|⟨m,h⟩:=aq h
      ·obtain⟨k2,d1,h⟩:=ae h;obtain⟨l2,g1,h⟩:=ae h;obtain⟨m2,i1,h⟩:=ae h;obtain⟨p2,j1,h⟩:=ae h;obtain⟨b1,h⟩|⟨b1,h⟩:=aq h
       ·obtain⟨q2,x1,h⟩:=ae h;have f:=ZA f (ZA g (ZA (aI w) (ZA x (ZA (aI y) (ZA a1 (ZA m (ZA (aI d1) (ZA g1 (ZA (aI i1) (ZA j1 b1))))))))));refine ZF f ?_;refine ZSG f (w_em _ _ _ x1) ?_;cases h;exact ZL f e
       ·cases h;exact ZL (ZA f (ZA g (ZA (aI w) (ZA x (ZA (aI y) (ZA a1 (ZA m (ZA (aI d1) (ZA g1 (ZA (aI i1) (ZA j1 b1))))))))))) e
      ·cases h;exact ZL (ZA f (ZA g (ZA (aI w) (ZA x (ZA (aI y) (ZA a1 m)))))) e
     ·cases h;exact ZL (ZA f g) e
    ·cases h;exact ZL (ZA f u) e
theorem Tj(a:aH){r:Int}(h:wB a=some r):Ok Tryz.prog 69 [.agg [.i a.First,.i a.Count]] (.i r):=by
 refine aA bd m69 rfl ?_;unfold wB at h;simp only[ZC,A69,V10,aJ];obtain⟨d,b,h⟩:=ae h;obtain⟨g,c,h⟩:=ae h;cases h;exact ZL (ZA (aI b) (aI c)) @V10.eq_1
theorem w_hh(a:ce)(c:ce){r:Bool}(h:QW a c=some r):Ok Tryz.prog 205 [.agg [.i a.Id,.i a.Route.Start,.lst .o 1 (a.Route.Fibers.map AV.i),.i a.Block.First,.i a.Block.Count],.agg [.i c.Id,.i c.Route.Start,.lst .o 1 (c.Route.Fibers.map AV.i),.i c.Block.First,.i c.Block.Count]] (.b r):=by
 refine aA bd m205 rfl ?_;unfold QW at h;simp only[ZC,A205,az,aJ];obtain⟨l,g,h⟩:=ae h;refine ZF trivial ?_;refine ZSG trivial (Tj _ g) ?_;obtain⟨m,j,h⟩:=ae h;refine ZF trivial ?_;refine ZSG trivial (Tj _ j) ?_;obtain⟨d,h⟩|⟨d,h⟩:=aq h
 ·obtain⟨p,k,h⟩:=ae h;refine ZF d ?_;refine ZUG d (Pa _ _ k) ?_;cases h;exact ZL d @az.eq_1
 ·cases h;exact ZL d @az.eq_1
theorem Hk(a:ar)(c:aH)(d:ar)(g:aH){r:Bool}(h:sI a c d g=some r):Ok Tryz.prog 142 [.agg [.i a.Start,.lst .o 1 (a.Fibers.map AV.i)],.agg [.i c.First,.i c.Count],.agg [.i d.Start,.lst .o 1 (d.Fibers.map AV.i)],.agg [.i g.First,.i g.Count]] (.b r):=by
 refine aA bd m142 rfl ?_;unfold sI at h;simp only[ZC,A142,CY,aJ];obtain⟨k,j,h⟩:=ae h;refine ZF trivial ?_;refine ZSG trivial (w_hh _ _ j) ?_;cases h;exact ZL trivial @CY.eq_1
theorem w_ge(j:ah)(a:af)(c:af){r:Bool}(h:Mw j a c=some r):Ok Tryz.prog 97 [.agg [.lst .o 1 (j.Nodes.map AV.z),.lst .o 4 (j.Fibers.map (ai .o))],.agg [.i a.Id,.i a.Class,.i a.Work.Start,.lst .o 1 (a.Work.Fibers.map AV.i),.i a.WorkBlock.First,.i a.WorkBlock.Count,.i a.Spare.Start,.lst .o 1 (a.Spare.Fibers.map AV.i),.i a.SpareBlock.First,.i a.SpareBlock.Count],.agg [.i c.Id,.i c.Class,.i c.Work.Start,.lst .o 1 (c.Work.Fibers.map AV.i),.i c.WorkBlock.First,.i c.WorkBlock.Count,.i c.Spare.Start,.lst .o 1 (c.Spare.Fibers.map AV.i),.i c.SpareBlock.First,.i c.SpareBlock.Count]] (.b r):=by
 refine aA bd m97 rfl ?_;unfold Mw at h;simp only[ZC,A97,bJ,aJ];obtain⟨q,t,h⟩:=ae h;try refine ZF trivial ?_
 refine aw (sh:=(fun v=>⟨[(3,.pt 3 0 0),(4,.pt 4 0 0),(5,.pt 5 0 0),(38,.b v)],[(3,.var (.agg [.lst .o 1 (j.Nodes.map AV.z),.lst .o 4 (j.Fibers.map (ai .o))])),(4,.var (.agg [.i a.Id,.i a.Class,.i a.Work.Start,.lst .o 1 (a.Work.Fibers.map AV.i),.i a.WorkBlock.First,.i a.WorkBlock.Count,.i a.Spare.Start,.lst .o 1 (a.Spare.Fibers.map AV.i),.i a.SpareBlock.First,.i a.SpareBlock.Count])),(5,.var (.agg [.i c.Id,.i c.Class,.i c.Work.Start,.lst .o 1 (c.Work.Fibers.map AV.i),.i c.WorkBlock.First,.i c.WorkBlock.Count,.i c.Spare.Start,.lst .o 1 (c.Spare.Fibers.map AV.i),.i c.SpareBlock.First,.i c.SpareBlock.Count]))]⟩)) (s:=q) ?_ ?_
 ·replace h:=t;obtain⟨d1,u,h⟩:=ae h;refine ZF trivial ?_;refine ZSG trivial (Hk _ _ _ _ u) ?_;obtain⟨g,h⟩|⟨g,h⟩:=aq h
  ·cases h;exact ZL g trivial
  ·obtain⟨g1,w,h⟩:=ae h;refine ZF g ?_;refine ZSG g (Hk _ _ _ _ w) ?_;obtain⟨l,h⟩|⟨l,h⟩:=aq h
   ·cases h;exact ZL (ZA g l) trivial
   ·obtain⟨i1,x,h⟩:=ae h;have f:=ZA g l;refine ZF f ?_;refine ZSG f (Hk _ _ _ _ x) ?_;cases h;exact ZL f trivial
 ·simp only[ZC,RJ];obtain⟨d,h⟩|⟨d,h⟩:=aq h
  ·cases h;exact ZL d @bJ.eq_1
  ·obtain⟨y,a1,h⟩:=ae h;try refine ZF d ?_
   refine aw (sh:=(fun v=>⟨[(4,.pt 4 0 0),(5,.pt 5 0 0),(7,.b v)],[(4,.var (.agg [.i a.Id,.i a.Class,.i a.Work.Start,.lst .o 1 (a.Work.Fibers.map AV.i),.i a.WorkBlock.First,.i a.WorkBlock.Count,.i a.Spare.Start,.lst .o 1 (a.Spare.Fibers.map AV.i),.i a.SpareBlock.First,.i a.SpareBlock.Count])),(5,.var (.agg [.i c.Id,.i c.Class,.i c.Work.Start,.lst .o 1 (c.Work.Fibers.map AV.i),.i c.WorkBlock.First,.i c.WorkBlock.Count,.i c.Spare.Start,.lst .o 1 (c.Spare.Fibers.map AV.i),.i c.SpareBlock.First,.i c.SpareBlock.Count]))]⟩)) (s:=y) ?_ ?_
   ·replace h:=a1;obtain⟨k,h⟩|⟨k,h⟩:=aq h
    ·obtain⟨m,h⟩|⟨m,h⟩:=aq h
     ·obtain⟨j1,b1,h⟩:=ae h;have f:=ZA d (ZA k m);refine ZF f ?_;refine ZSG f (w_em _ _ _ b1) ?_;cases h;exact ZL f trivial
     ·cases h;exact ZL (ZA d (ZA k m)) trivial
    ·cases h;exact ZL (ZA d k) trivial
   ·simp only[ZC,RP];obtain⟨p,h⟩|⟨p,h⟩:=aq h
    ·cases h;exact ZL (ZA d p) @bJ.eq_1
    ·obtain⟨k1,c1,h⟩:=ae h;have f:=ZA d p;refine ZF f ?_;refine ZSG f (Hk _ _ _ _ c1) ?_;cases h;exact ZL f @bJ.eq_1
theorem w_dy(a:af)(p1Z0:ah)(p2Z0:af){r:Bool}(h:BJ a p1Z0 p2Z0=some r):Ok Tryz.prog 96 [.agg [.i a.Id,.i a.Class,.i a.Work.Start,.lst .o 1 (a.Work.Fibers.map AV.i),.i a.WorkBlock.First,.i a.WorkBlock.Count,.i a.Spare.Start,.lst .o 1 (a.Spare.Fibers.map AV.i),.i a.SpareBlock.First,.i a.SpareBlock.Count],.bp .o (.agg [.lst .o 1 (p1Z0.Nodes.map AV.z),.lst .o 4 (p1Z0.Fibers.map (ai .o))]) 0,.bp .o (.agg [.i p2Z0.Id,.i p2Z0.Class,.i p2Z0.Work.Start,.lst .o 1 (p2Z0.Work.Fibers.map AV.i),.i p2Z0.WorkBlock.First,.i p2Z0.WorkBlock.Count,.i p2Z0.Spare.Start,.lst .o 1 (p2Z0.Spare.Fibers.map AV.i),.i p2Z0.SpareBlock.First,.i p2Z0.SpareBlock.Count]) 0] (.b r):=by
 refine aA bd m96 rfl ?_;unfold BJ at h;simp only[ZC,A96,az,aJ];obtain⟨d,c,h⟩:=ae h;refine ZF trivial ?_;refine ZSG trivial (w_ge _ _ _ c) ?_;cases h;exact ZL trivial @az.eq_1
def Ka(a:List af)(F_fZ0:Nat)(C_fZ0:List AV)(v:Int):St:=⟨[(0,.lst .o 10 (a.map (aj .o))),(1,.fn F_fZ0 C_fZ0),(7,.i (a.length:Int)),(8,.i v)],[]⟩
theorem w_ci(c:List af)(j:af->Option Bool)(F_fZ0:Nat)(C_fZ0:List AV)(hC_fZ0:rd C_fZ0)(hf_fZ0:∀(x0:af)(r:Bool),j x0=some r->Ok Tryz.prog F_fZ0 ((.agg [.i x0.Id,.i x0.Class,.i x0.Work.Start,.lst .o 1 (x0.Work.Fibers.map AV.i),.i x0.WorkBlock.First,.i x0.WorkBlock.Count,.i x0.Spare.Start,.lst .o 1 (x0.Spare.Fibers.map AV.i),.i x0.SpareBlock.First,.i x0.SpareBlock.Count])::C_fZ0) (.b r))(k:Int)(o:Int⊕(Unit⊕Int))(h:Co c j k=some o):AWP (OkS Tryz.prog) HP (qL [0,1,7,8] [] (Ka c F_fZ0 C_fZ0) (qS (qX 0 [] [] (bR)) (qR az (fun r=>.i r))) o) (Ka c F_fZ0 C_fZ0 k):=by
 have e:=ZA @Ka.eq_1 @bR.eq_1;unfold Co at h;simp only[ZC,Ka,HP];obtain⟨a,h⟩|⟨a,h⟩:=aq h
 ·obtain⟨m,d,h⟩:=ae h;obtain⟨p,l,h⟩:=ae h;have f:=ZA a (aM d);refine ZF f ?_;have f:=ZA f hC_fZ0.1;refine ZSG f (hf_fZ0 _ _ l) ?_;obtain⟨g,h⟩|⟨g,h⟩:=aq h
  ·cases h;exact ZL (ZA a (ZA (aM d) g)) (ZA @az.eq_1 (ZA hC_fZ0.2 ((dk hC_fZ0))))
  ·cases h;exact ZL (ZA a (ZA (aM d) g)) (ZA e (ZA hC_fZ0.2 ((dk hC_fZ0))))
 ·cases h;exact ZL a (ZA e (ZA hC_fZ0.2 ((dk hC_fZ0))))
theorem w_hf(a:List af)(c:af->Option Bool){r:Int}(h:PY a c=some r)(F_fZ0:Nat)(C_fZ0:List AV)(hC_fZ0:rd C_fZ0)(hf_fZ0:∀(x0:af)(r:Bool),c x0=some r->Ok Tryz.prog F_fZ0 ((.agg [.i x0.Id,.i x0.Class,.i x0.Work.Start,.lst .o 1 (x0.Work.Fibers.map AV.i),.i x0.WorkBlock.First,.i x0.WorkBlock.Count,.i x0.Spare.Start,.lst .o 1 (x0.Spare.Fibers.map AV.i),.i x0.SpareBlock.First,.i x0.SpareBlock.Count])::C_fZ0) (.b r)):Ok Tryz.prog 98 [.lst .o 10 (a.map (aj .o)),.fn F_fZ0 C_fZ0] (.i r):=by
 refine aA bd m98 rfl ?_;unfold PY at h;simp only[ZC,A98,az,aJ];obtain⟨d,g,h⟩:=ae h;try refine ZF trivial ?_
 refine bo (o:=d) (bu cJ (aC (w_ci a c F_fZ0 C_fZ0 hC_fZ0 hf_fZ0) g ?_)) (fun k hv=>?_) (fun l hv e τ hne hq=>?_)
 ·exact ZK (ZA @Ka.eq_1 (ZA @bR.eq_1 (ZA hC_fZ0.2 ((dk hC_fZ0)))))
 ·subst hv;simp only[] at h;simp only[ZC,bR,SE];cases h;exact ZL trivial (ZA @az.eq_1 (ZA hC_fZ0.2 ((dk hC_fZ0))))
 ·subst hv;simp only[] at h;obtain⟨rfl,j⟩:=hq;cases h;exact j
theorem Vi(a:List af)(c:af->Option Bool){r:Bool}(h:rZ a c=some r)(F_fZ0:Nat)(C_fZ0:List AV)(hC_fZ0:rd C_fZ0)(hf_fZ0:∀(x0:af)(r:Bool),c x0=some r->Ok Tryz.prog F_fZ0 ((.agg [.i x0.Id,.i x0.Class,.i x0.Work.Start,.lst .o 1 (x0.Work.Fibers.map AV.i),.i x0.WorkBlock.First,.i x0.WorkBlock.Count,.i x0.Spare.Start,.lst .o 1 (x0.Spare.Fibers.map AV.i),.i x0.SpareBlock.First,.i x0.SpareBlock.Count])::C_fZ0) (.b r)):Ok Tryz.prog 95 [.lst .o 10 (a.map (aj .o)),.fn F_fZ0 C_fZ0] (.b r):=by
 refine aA bd m95 rfl ?_;unfold rZ at h;simp only[ZC,A95,az,aJ];obtain⟨g,d,h⟩:=ae h;refine ZF trivial ?_;refine ZSG hC_fZ0.1 (w_hf _ _ d F_fZ0 C_fZ0 hC_fZ0 hf_fZ0) ?_;cases h;exact ZL trivial (ZA @az.eq_1 (ZA hC_fZ0.2 ((dk hC_fZ0))))
def wX(b:ah)(a:List af)(v:Int):St:=⟨[(1,.lst .o 10 (a.map (aj .o))),(2,.pt 2 0 0),(15,.lst .o 10 (a.map (aj .o))),(16,.i (a.length:Int)),(17,.i v)],[(2,.var (.agg [.lst .o 1 (b.Nodes.map AV.z),.lst .o 4 (b.Fibers.map (ai .o))]))]⟩
theorem w_bi(c:ah)(j:List af)(s:Int)(o:Int⊕(Unit⊕Bool))(h:Cp c j s=some o):AWP (OkS Tryz.prog) GB (qL [1,2,15,16,17] [2] (wX c j) (qS (qX 0 [] [] (bR)) (qR az (fun r=>.b r))) o) (wX c j s):=by
 unfold Cp at h;simp only[ZC,wX,GB];obtain⟨l,h⟩|⟨l,h⟩:=aq h
 ·obtain⟨a,u,h⟩:=ae h;obtain⟨q1,v,h⟩:=ae h;have f:=ZA l (aM u);refine ZF f ?_;refine ZSG f (w_gd _ _ v) ?_;obtain⟨d,h⟩|⟨d,h⟩:=aq h
  ·cases h;exact ZL (ZA f d) @az.eq_1
  ·obtain⟨g,h⟩|⟨g,h⟩:=aq h
   ·obtain⟨s1,t,h⟩:=ae h;obtain⟨m,h⟩|⟨m,h⟩:=aq h
    ·cases h;exact ZL (ZA f (ZA d (ZA g (ZA (aM t) m)))) @az.eq_1
    ·obtain⟨t1,w,h⟩:=ae h;obtain⟨x,y,a1,b1,c1⟩:=zZ (aj .o) w;obtain⟨u1,d1,h⟩:=ae h;have f:=ZA f (ZA d (ZA g (ZA (aM t) (ZA m (ZA x (ZA y (ZA a1 (ZA b1 c1))))))));refine ZF f ?_;refine ZSG f (Vi _ _ d1 96 [.bp .o (.agg [.lst .o 1 (c.Nodes.map AV.z),.lst .o 4 (c.Fibers.map (ai .o))]) 0,.bp .o (.agg [.i a.Id,.i a.Class,.i a.Work.Start,.lst .o 1 (a.Work.Fibers.map AV.i),.i a.WorkBlock.First,.i a.WorkBlock.Count,.i a.Spare.Start,.lst .o 1 (a.Spare.Fibers.map AV.i),.i a.SpareBlock.First,.i a.SpareBlock.Count]) 0] ⟨fun ρ k=>by simp only[VS1,VS2,VS3,VS4,VS5,VS6,VT1,VT2,ch,cg,decide_true,decide_false,List.nodup_nil,List.nodup_cons,fy,fA,fC,ne_eq,not_false_eq_true,Int.reduceEq,Int.reduceNe,true_and,false_and,Nat.reduceSub,Nat.reduceMul,↓reduceIte,reduceCtorEq,Nat.reduceEqDiff,Nat.reduceAdd,Nat.reduceLeDiff,Int.reduceLE],by simp[aN,AV.ments]⟩ (fun _ _ h=>w_dy _ _ _ h)) ?_;obtain⟨p,h⟩|⟨p,h⟩:=aq h
     ·cases h;exact ZL (ZA f p) @az.eq_1
     ·cases h;exact ZL (ZA f p) (ZA @wX.eq_1 @bR.eq_1)
   ·obtain⟨v1,g1,h⟩:=ae h;obtain⟨i1,j1,k1,l1,m1⟩:=zZ (aj .o) g1;obtain⟨w1,p1,h⟩:=ae h;have f:=ZA f (ZA d (ZA g (ZA i1 (ZA j1 (ZA k1 (ZA l1 m1))))));refine ZF f ?_;refine ZSG f (Vi _ _ p1 96 [.bp .o (.agg [.lst .o 1 (c.Nodes.map AV.z),.lst .o 4 (c.Fibers.map (ai .o))]) 0,.bp .o (.agg [.i a.Id,.i a.Class,.i a.Work.Start,.lst .o 1 (a.Work.Fibers.map AV.i),.i a.WorkBlock.First,.i a.WorkBlock.Count,.i a.Spare.Start,.lst .o 1 (a.Spare.Fibers.map AV.i),.i a.SpareBlock.First,.i a.SpareBlock.Count]) 0] ⟨fun ρ k=>by simp only[VS1,VS2,VS3,VS4,VS5,VS6,VT1,VT2,ch,cg,decide_true,decide_false,List.nodup_nil,List.nodup_cons,fy,fA,fC,ne_eq,not_false_eq_true,Int.reduceEq,Int.reduceNe,true_and,false_and,Nat.reduceSub,Nat.reduceMul,↓reduceIte,reduceCtorEq,Nat.reduceEqDiff,Nat.reduceAdd,Nat.reduceLeDiff,Int.reduceLE],by simp[aN,AV.ments]⟩ (fun _ _ h=>w_dy _ _ _ h)) ?_;obtain⟨q,h⟩|⟨q,h⟩:=aq h
    ·cases h;exact ZL (ZA f q) @az.eq_1
    ·cases h;exact ZL (ZA f q) (ZA @wX.eq_1 @bR.eq_1)
 ·cases h;exact ZL l (ZA @wX.eq_1 @bR.eq_1)
theorem w_dx(a:ah)(c:List af){r:Bool}(h:Cr a c=some r):Ok Tryz.prog 24 [.agg [.lst .o 1 (a.Nodes.map AV.z),.lst .o 4 (a.Fibers.map (ai .o))],.lst .o 10 (c.map (aj .o))] (.b r):=by
 refine aA bd m24 rfl ?_;unfold Cr at h;simp only[ZC,A24,az,aJ];obtain⟨i,j,h⟩:=ae h;try refine ZF trivial ?_
 refine aw (sh:=(fun v=>⟨[(1,.lst .o 10 (c.map (aj .o))),(2,.pt 2 0 0),(14,.b v)],[(2,.var (.agg [.lst .o 1 (a.Nodes.map AV.z),.lst .o 4 (a.Fibers.map (ai .o))]))]⟩)) (s:=i) ?_ ?_
 ·replace h:=j;obtain⟨q,k,h⟩:=ae h;refine ZF trivial ?_;refine ZSG trivial (w_ej _ k) ?_;obtain⟨g,h⟩|⟨g,h⟩:=aq h
  ·cases h;exact ZL g trivial
  ·cases h;exact ZL g trivial
 ·simp only[ZC,RN];obtain⟨d,h⟩|⟨d,h⟩:=aq h
  ·cases h;exact ZL d @az.eq_1
  ·obtain⟨l,m,h⟩:=ae h;try refine ZF d ?_
   refine bo (o:=l) (bu cJ (aC (w_bi a c) m ?_)) (fun t hv=>?_) (fun u hv e τ hne hq=>?_)
   ·exact ZK (ZA @wX.eq_1 @bR.eq_1)
   ·subst hv;simp only[] at h;simp only[ZC,bR,Sp];cases h;exact ZL d @az.eq_1
   ·subst hv;simp only[] at h;obtain⟨rfl,p⟩:=hq;cases h;exact p
def El(a:List Int)(b:Int)(v:Int):St:=⟨[(0,.lst .o 1 (a.map AV.i)),(1,.i b),(7,.lst .o 1 (a.map AV.i)),(8,.i (a.length:Int)),(9,.i v)],[]⟩
theorem w_cc(d:List Int)(g:Int)(k:Int)(o:Int⊕(Unit⊕Bool))(h:AL d g k=some o):AWP (OkS Tryz.prog) xm (qL [0,1,7,8,9] [] (El d g) (qS (qX 0 [] [] (bR)) (qR az (fun r=>.b r))) o) (El d g k):=by
 have e:=ZA @El.eq_1 @bR.eq_1;unfold AL at h;simp only[ZC,El,xm];obtain⟨i,h⟩|⟨i,h⟩:=aq h
 ·obtain⟨q,m,h⟩:=ae h;obtain⟨s,p,h⟩:=ae h;have f:=ZA i (aM m);refine ZF f ?_;refine ZSG f (w_h _ _ _ p) ?_;obtain⟨a,h⟩|⟨a,h⟩:=aq h
  ·cases h;exact ZL (ZA f a) @az.eq_1
  ·obtain⟨c,h⟩|⟨c,h⟩:=aq h
   ·obtain⟨t,l,h⟩:=ae h;obtain⟨j,h⟩|⟨j,h⟩:=aq h
    ·cases h;exact ZL (ZA f (ZA a (ZA c (ZA (aM l) j)))) @az.eq_1
    ·cases h;exact ZL (ZA f (ZA a (ZA c (ZA (aM l) j)))) e
   ·cases h;exact ZL (ZA f (ZA a c)) e
 ·cases h;exact ZL i e
theorem w_fj(a:List Int)(c:Int){r:Bool}(h:LD a c=some r):Ok Tryz.prog 138 [.lst .o 1 (a.map AV.i),.i c] (.b r):=by
 refine aA bd m138 rfl ?_;unfold LD at h;simp only[ZC,A138,az,aJ];obtain⟨d,g,h⟩:=ae h;try refine ZF trivial ?_
 refine bo (o:=d) (bu cJ (aC (w_cc a c) g ?_)) (fun k hv=>?_) (fun l hv e τ hne hq=>?_)
 ·exact ZK (ZA @El.eq_1 @bR.eq_1)
 ·subst hv;simp only[] at h;simp only[ZC,bR,Fm];cases h;exact ZL trivial @az.eq_1
 ·subst hv;simp only[] at h;obtain⟨rfl,j⟩:=hq;cases h;exact j
theorem Vm(c:ah)(d:List af)(g:List Int){r:Bool}(h:wH c d g=some r):Ok Tryz.prog 65 [.agg [.lst .o 1 (c.Nodes.map AV.z),.lst .o 4 (c.Fibers.map (ai .o))],.lst .o 10 (d.map (aj .o)),.lst .o 1 (g.map AV.i)] (.b r):=by
 refine aA bd m65 rfl ?_;unfold wH at h;simp only[ZC,A65,bJ,aJ];obtain⟨m,j,h⟩:=ae h;refine ZF trivial ?_;refine ZSG trivial (w_dx _ _ j) ?_;obtain⟨a,h⟩|⟨a,h⟩:=aq h
 ·obtain⟨p,k,h⟩:=ae h;refine ZF a ?_;refine ZUG a (Ix _ k) ?_;obtain⟨q,l,h⟩:=ae h;refine ZF a ?_;refine ZSG a (w_fj _ _ l) ?_;cases h;exact ZL a @bJ.eq_1
 ·cases h;exact ZL a @bJ.eq_1
def GS(a:List Int)(b:List (List Int))(v:Int×List Int):St:=⟨[(5,.sl 5 0 v.2.length),(6,.sl 6 0 b.length),(12,.lst .o 1 (a.map AV.i)),(13,.i (a.length:Int)),(14,.i v.1)],[(5,.arr 1 (v.2.map AV.i)),(6,.arr 1 (b.map (bI .u)))]⟩
theorem w_ce(b:List Int)(c:List (List Int))(a:Int×List Int)(o:(Int×List Int)⊕(List Int))(h:DM b c a=some o):AWP (OkS Tryz.prog) Hc (qL [5,6,12,13,14] [5,6] (GS b c) (qX 0 [5] [5] (jY)) o) (GS b c a):=by
 have e:=ZA @GS.eq_1 @jY.eq_1;unfold DM at h;simp only[ZC,GS,Hc];obtain⟨d,h⟩|⟨d,h⟩:=aq h
 ·obtain⟨v,p,h⟩:=ae h;obtain⟨w,q,h⟩:=ae h;obtain⟨j,s,h⟩:=ae h;obtain⟨x,t,h⟩:=ae h;have k:=aI t;obtain⟨l,g,h⟩:=aO h;have u:a.2.map AV.i++j.map AV.i=l.map AV.i:=by rw[<-g,List.map_append]
  have m:a.2.length+j.length=l.length:=by simp[<-g]<;>omega
  rw[m] at k;cases h;exact ZL (ZA d (ZA (aM p) (ZA (aI q) (ZA s (ZA k (ZA u m)))))) (ZA e g.symm)
 ·cases h;exact ZL d e
theorem w_dq(a:ah)(b:List Int){r:List Int}(h:BF a b=some r):Ok Tryz.prog 66 [.agg [.lst .o 1 (a.Nodes.map AV.z),.lst .o 4 (a.Fibers.map (ai .o))],.lst .o 1 (b.map AV.i)] (.lst .u 1 (r.map AV.i)):=by
 refine aA bd m66 rfl ?_;unfold BF at h;simp only[ZC,A66,az,aJ];obtain⟨c,d,h⟩:=ae h;refine ZF trivial ?_;refine ZUG trivial (Ix _ d) ?_;obtain⟨j,g,h⟩:=ae h;try refine ZF trivial ?_
 refine aw (aY (aC (w_ce b c) g ?_)) ?_
 ·exact ZK (ZA @GS.eq_1 @jY.eq_1)
 ·simp only[ZC,jY,SB];cases h;exact ZL trivial @az.eq_1
theorem w_fm(a:af)(p1Z0:af){r:Bool}(h:EX a p1Z0=some r):Ok Tryz.prog 141 [.agg [.i a.Id,.i a.Class,.i a.Work.Start,.lst .o 1 (a.Work.Fibers.map AV.i),.i a.WorkBlock.First,.i a.WorkBlock.Count,.i a.Spare.Start,.lst .o 1 (a.Spare.Fibers.map AV.i),.i a.SpareBlock.First,.i a.SpareBlock.Count],.bp .o (.agg [.i p1Z0.Id,.i p1Z0.Class,.i p1Z0.Work.Start,.lst .o 1 (p1Z0.Work.Fibers.map AV.i),.i p1Z0.WorkBlock.First,.i p1Z0.WorkBlock.Count,.i p1Z0.Spare.Start,.lst .o 1 (p1Z0.Spare.Fibers.map AV.i),.i p1Z0.SpareBlock.First,.i p1Z0.SpareBlock.Count]) 0] (.b r):=by
 refine aA bd m141 rfl ?_;unfold EX at h;simp only[ZC,A141,BN,aJ];obtain⟨d,c,h⟩:=ae h;refine ZF trivial ?_;refine ZSG trivial (Hk _ _ _ _ c) ?_;cases h;exact ZL trivial @BN.eq_1
def S_i(a:List af)(b:List Int)(v:Int×List Int×List af):St:=⟨[(7,.sl 7 0 b.length),(8,.sl 8 0 v.2.1.length),(9,.sl 9 0 v.2.2.length),(21,.lst .o 10 (a.map (aj .o))),(22,.i (a.length:Int)),(23,.i v.1)],[(7,.arr 1 (b.map AV.i)),(8,.arr 1 (v.2.1.map AV.i)),(9,.arr 10 (v.2.2.map (aj .o)))]⟩
def mR(v:List Int):St:=⟨[(8,.sl 8 0 v.length)],[(8,.arr 1 (v.map AV.i))]⟩
theorem w_i(d:List af)(g:List Int)(c:Int×List Int×List af)(o:(Int×List Int×List af)⊕(List Int))(h:M_i d g c=some o):AWP (OkS Tryz.prog) Gv (qL [7,8,9,21,22,23] [7,8,9] (S_i d g) (qX 0 [8] [8] (mR)) o) (S_i d g c):=by
 have e:=ZA @S_i.eq_1 @mR.eq_1;unfold M_i at h;simp only[ZC,S_i,Gv];obtain⟨p,h⟩|⟨p,h⟩:=aq h
 ·obtain⟨a,q1,h⟩:=ae h;obtain⟨s1,t1,h⟩:=ae h;have f:=ZA p (aM q1);refine ZF f ?_;refine ZUG f (Pa _ _ t1) ?_;obtain⟨u1,v1,h⟩:=ae h;refine ZF f ?_;refine ZUG f (Pa _ _ v1) ?_;obtain⟨c1,w1,h⟩:=ae h;try refine ZF f ?_
  refine aw (sh:=(fun v=>⟨[(7,.sl 7 0 g.length),(8,.sl 8 0 c.2.1.length),(9,.sl 9 0 v.2.length),(14,.i v.1),(21,.lst .o 10 (d.map (aj .o))),(22,.i (d.length:Int)),(23,.i c.1)],[(7,.arr 1 (g.map AV.i)),(8,.arr 1 (c.2.1.map AV.i)),(9,.arr 10 (v.2.map (aj .o)))]⟩)) (s:=c1) ?_ ?_
  ·replace h:=w1;obtain⟨x1,y1,h⟩:=ae h;try refine ZF f ?_
   refine aw (sh:=(fun v=>⟨[(7,.sl 7 0 g.length),(8,.sl 8 0 c.2.1.length),(9,.sl 9 0 c.2.2.length),(11,.pt 11 0 0),(12,.b (decide (0<(s1.length:Int)))),(13,.b (decide (0<(u1.length:Int)))),(14,.i 3),(21,.lst .o 10 (d.map (aj .o))),(22,.i (d.length:Int)),(23,.i c.1),(41,.b v)],[(7,.arr 1 (g.map AV.i)),(8,.arr 1 (c.2.1.map AV.i)),(9,.arr 10 (c.2.2.map (aj .o))),(11,.var (.agg [.i a.Id,.i a.Class,.i a.Work.Start,.lst .o 1 (a.Work.Fibers.map AV.i),.i a.WorkBlock.First,.i a.WorkBlock.Count,.i a.Spare.Start,.lst .o 1 (a.Spare.Fibers.map AV.i),.i a.SpareBlock.First,.i a.SpareBlock.Count]))]⟩)) (s:=x1) ?_ ?_
   ·replace h:=y1;obtain⟨q,h⟩|⟨q,h⟩:=aq h
    ·cases h;exact ZL (ZA f q) trivial
    ·cases h;exact ZL (ZA f q) trivial
   ·simp only[ZC,SH];obtain⟨j,h⟩|⟨j,h⟩:=aq h
    ·cases h;exact ZL (ZA f j) trivial
    ·obtain⟨t,h⟩|⟨t,h⟩:=aq h
     ·cases h;exact ZL (ZA f (ZA j t)) trivial
     ·obtain⟨z1,a2,h⟩:=ae h;have f:=ZA f (ZA j t);try refine ZF f ?_
      refine aw (sh:=(fun v=>⟨[(7,.sl 7 0 g.length),(8,.sl 8 0 c.2.1.length),(9,.sl 9 0 c.2.2.length),(11,.pt 11 0 0),(14,.i 3),(21,.lst .o 10 (d.map (aj .o))),(22,.i (d.length:Int)),(23,.i c.1),(51,.b v)],[(7,.arr 1 (g.map AV.i)),(8,.arr 1 (c.2.1.map AV.i)),(9,.arr 10 (c.2.2.map (aj .o))),(11,.var (.agg [.i a.Id,.i a.Class,.i a.Work.Start,.lst .o 1 (a.Work.Fibers.map AV.i),.i a.WorkBlock.First,.i a.WorkBlock.Count,.i a.Spare.Start,.lst .o 1 (a.Spare.Fibers.map AV.i),.i a.SpareBlock.First,.i a.SpareBlock.Count]))]⟩)) (s:=z1) ?_ ?_
      ·replace h:=a2;obtain⟨u,h⟩|⟨u,h⟩:=aq h
       ·cases h;exact ZL (ZA f u) trivial
       ·cases h;exact ZL (ZA f u) trivial
      ·simp only[ZC,RC];obtain⟨w,h⟩|⟨w,h⟩:=aq h
       ·obtain⟨l2,b2,h⟩:=ae h;have f:=ZA f w;refine ZF f ?_;refine ZSG f (Vi _ _ b2 141 [.bp .o (.agg [.i a.Id,.i a.Class,.i a.Work.Start,.lst .o 1 (a.Work.Fibers.map AV.i),.i a.WorkBlock.First,.i a.WorkBlock.Count,.i a.Spare.Start,.lst .o 1 (a.Spare.Fibers.map AV.i),.i a.SpareBlock.First,.i a.SpareBlock.Count]) 0] ⟨fun ρ k=>by simp only[VS1,VS2,VS3,VS4,VS5,VS6,VT1,VT2,ch,cg,decide_true,decide_false,List.nodup_nil,List.nodup_cons,fy,fA,fC,ne_eq,not_false_eq_true,Int.reduceEq,Int.reduceNe,true_and,false_and,Nat.reduceSub,Nat.reduceMul,↓reduceIte,reduceCtorEq,Nat.reduceEqDiff,Nat.reduceAdd,Nat.reduceLeDiff,Int.reduceLE],by simp[aN,AV.ments]⟩ (fun _ _ h=>w_fm _ _ h)) ?_;obtain⟨x,h⟩|⟨x,h⟩:=aq h
        ·obtain⟨y,l,h⟩:=aO h;have c2:Row.arr 10 [(.agg [.i a.Id,.i a.Class,.i a.Work.Start,.lst .o 1 (a.Work.Fibers.map AV.i),.i a.WorkBlock.First,.i a.WorkBlock.Count,.i a.Spare.Start,.lst .o 1 (a.Spare.Fibers.map AV.i),.i a.SpareBlock.First,.i a.SpareBlock.Count]:AV)]=Row.arr 10 (y.map (aj .o)):=by rw[<-l];rfl
         have d1:y.length=1:=by rw[<-l];rfl
         obtain⟨m2,d2,h⟩:=ae h;have g1:=aI d2;obtain⟨i1,z,h⟩:=aO h;have g2:c.2.2.map (aj .o)++y.map (aj .o)=i1.map (aj .o):=by rw[<-z,List.map_append]
         have j1:c.2.2.length+1=i1.length:=by simp[<-l,<-z]<;>omega
         rw[j1] at g1;cases h;exact ZL (ZA f (ZA x (ZA c2 (ZA d1 (ZA g1 (ZA g2 j1)))))) (ZA l.symm (ZA z.symm d1))
        ·cases h;exact ZL (ZA f x) trivial
       ·cases h;exact ZL (ZA f w) trivial
  ·simp only[ZC,RE];obtain⟨a1,m,h⟩:=aO h;have i2:Row.arr 1 [(.i c1.1:AV)]=Row.arr 1 (a1.map AV.i):=by rw[<-m];rfl
   have k1:a1.length=1:=by rw[<-m];rfl
   obtain⟨p2,j2,h⟩:=ae h;have l1:=aI j2;obtain⟨m1,b1,h⟩:=aO h;have k2:c.2.1.map AV.i++a1.map AV.i=m1.map AV.i:=by rw[<-b1,List.map_append]
   have p1:c.2.1.length+1=m1.length:=by simp[<-m,<-b1]<;>omega
   rw[p1] at l1;cases h;exact ZL (ZA f (ZA i2 (ZA k1 (ZA l1 (ZA k2 p1))))) (ZA e (ZA m.symm (ZA b1.symm k1)))
 ·cases h;exact ZL p e
theorem Gf(a:ah)(b:List af)(c:List Int){r:List Int}(h:sy a b c=some r):Ok Tryz.prog 70 [.agg [.lst .o 1 (a.Nodes.map AV.z),.lst .o 4 (a.Fibers.map (ai .o))],.lst .o 10 (b.map (aj .o)),.lst .o 1 (c.map AV.i)] (.lst .u 1 (r.map AV.i)):=by
 refine aA bd m70 rfl ?_;unfold sy at h;simp only[ZC,A70,bJ,aJ];obtain⟨d,g,h⟩:=ae h;refine ZF trivial ?_;refine ZUG trivial (w_dq _ _ g) ?_;obtain⟨k,j,h⟩:=ae h;try refine ZF trivial ?_
 refine aw (aY (aC (w_i b d) j ?_)) ?_
 ·exact ZK (ZA @S_i.eq_1 @mR.eq_1)
 ·simp only[ZC,mR,RF];cases h;exact ZL trivial @bJ.eq_1
def IV(a:ar)(b:aH)(c:List Int)(v:Int×List Int):St:=⟨[(2,.pt 1000000000 0 0),(3,.pt 1000000002 0 0),(5,.pt 5 0 0),(9,.lst .o 1 (((a).Fibers).map AV.i)),(10,.i (((a).Fibers).length:Int)),(11,.i v.1)],[(5,.var (.agg [.i ((b).First),.i ((b).Count)])),(1000000000,.var (.sl 1000000001 0 c.length)),(1000000001,.arr 1 (c.map AV.i)),(1000000002,.var (.sl 1000000003 0 v.2.length)),(1000000003,.arr 1 (v.2.map AV.i))]⟩
def zQ(a:List Int)(v:List Int):St:=⟨[],[(1000000000,.var (.sl 1000000001 0 a.length)),(1000000001,.arr 1 (a.map AV.i)),(1000000002,.var (.sl 1000000003 0 v.length)),(1000000003,.arr 1 (v.map AV.i))]⟩
theorem w_ad(b:ar)(c:aH)(a:List Int)(d:Int×List Int)(o:(Int×List Int)⊕(List Int))(h:AY b c a d=some o):AWP (OkS Tryz.prog) su (qL [2,3,5,9,10,11] [5,1000000000,1000000001,1000000002,1000000003] (IV b c a) (qX 0 [] [1000000000,1000000001,1000000002,1000000003] (zQ a)) o) (IV b c a d):=by
 have e:=ZA @IV.eq_1 @zQ.eq_1;unfold AY at h;simp only[ZC,IV,su];obtain⟨g,h⟩|⟨g,h⟩:=aq h
 ·obtain⟨l,m,h⟩:=ae h;obtain⟨y,p,h⟩:=ae h;have f:=ZA g (aM m);refine ZF f ?_;refine ZSG f (Ou _ _ p) ?_;obtain⟨j,h⟩|⟨j,h⟩:=aq h
  ·obtain⟨z,q,h⟩:=ae h;obtain⟨s,t,h⟩:=ae h;obtain⟨u,v,h⟩:=ae h;have f:=ZA f (ZA j (ZA (aI q) t));refine ZF f ?_;refine ZSG f (Tj _ v) ?_;obtain⟨w,k,h⟩:=aO h;have x:(d.2.map AV.i).set (Int.toNat l) (.i (bits .or .i64 s u))=w.map AV.i:=by rw[<-k,List.map_set]
   cases h;exact ZL (ZA f x) (ZA e k.symm)
  ·cases h;exact ZL (ZA f j) e
 ·cases h;exact ZL g e
theorem w_en(a:ar)(b:aH)(c:List Int)(d:List Int){r:List Int×List Int}(h:Ax a b c d=some r):OkM Tryz.prog 67 [.agg [.i ((a).Start),.lst .o 1 (((a).Fibers).map AV.i)],.agg [.i ((b).First),.i ((b).Count)],.pt 1000000000 0 0,.pt 1000000002 0 0] [(1000000000,.var (.sl 1000000001 0 c.length)),(1000000001,.arr 1 (c.map AV.i)),(1000000002,.var (.sl 1000000003 0 d.length)),(1000000003,.arr 1 (d.map AV.i))] (.tup []) ([(1000000000,.var (.sl 1000000001 0 r.1.length)),(1000000001,.arr 1 (r.1.map AV.i)),(1000000002,.var (.sl 1000000003 0 r.2.length)),(1000000003,.arr 1 (r.2.map AV.i))]):=by
 refine aZ (lr:=[1000000000,1000000001,1000000002,1000000003]) bd Wl rfl rfl ?_;unfold Ax at h;simp only[ZC,Rk,cy];obtain⟨k,g,h⟩:=ae h;try refine ZF trivial ?_
 first|refine cK (aY (aC (w_ad a b c) g ?_)) (fun τ j=>?_)|refine dx (aC (w_ad a b c) g ?_) (fun τ j=>?_)
 ·exact ZK (ZA @IV.eq_1 @zQ.eq_1)
 ·cases h;refine lN j (by decide) ?_ rfl;exact ZK (ZA @cy.eq_1 @zQ.eq_1)
def MQ(b:List af)(a:List Int)(v:Int×List Int×List Int):St:=⟨[(1,.lst .o 10 (b.map (aj .o))),(8,.pt 8 0 0),(10,.fn 67 [.pt 9 0 0,.pt 8 0 0]),(30,.sl 30 0 a.length),(31,.i (a.length:Int)),(32,.i v.1)],[(8,.var (.sl 22 0 v.2.1.length)),(9,.var (.sl 25 0 v.2.2.length)),(22,.arr 1 (v.2.1.map AV.i)),(25,.arr 1 (v.2.2.map AV.i)),(30,.arr 1 (a.map AV.i))]⟩
def zM(v:List Int):St:=⟨[(8,.pt 8 0 0)],[(8,.var (.sl 22 0 v.length)),(22,.arr 1 (v.map AV.i))]⟩
theorem w_ae(g:List af)(c:List Int)(d:Int×List Int×List Int)(o:(Int×List Int×List Int)⊕(List Int))(h:xn g c d=some o):AWP (OkS Tryz.prog) GR (qL [1,8,10,30,31,32] [8,9,22,25,30] (MQ g c) (qX 0 [8] [8,22] (zM)) o) (MQ g c d):=by
 have e:=ZA @MQ.eq_1 @zM.eq_1;unfold xn at h;simp only[ZC,MQ,GR];obtain⟨l,h⟩|⟨l,h⟩:=aq h
 ·obtain⟨j1,w,h⟩:=ae h;obtain⟨u,x,h⟩:=ae h;obtain⟨a,y,h⟩:=ae h;obtain⟨j,z,h⟩:=ae h;have f:=ZA l (ZA (aI w) (ZA x (aM y)));try refine ZF f ?_
  refine aw (sh:=(fun v=>⟨[(1,.lst .o 10 (g.map (aj .o))),(8,.pt 8 0 0),(10,.fn 67 [.pt 9 0 0,.pt 8 0 0]),(12,.i u),(13,.pt 13 0 0),(30,.sl 30 0 c.length),(31,.i (c.length:Int)),(32,.i d.1)],[(8,.var (.sl 22 0 v.1.length)),(9,.var (.sl 25 0 v.2.length)),(13,.var (.agg [.i a.Id,.i a.Class,.i a.Work.Start,.lst .o 1 (a.Work.Fibers.map AV.i),.i a.WorkBlock.First,.i a.WorkBlock.Count,.i a.Spare.Start,.lst .o 1 (a.Spare.Fibers.map AV.i),.i a.SpareBlock.First,.i a.SpareBlock.Count])),(22,.arr 1 (v.1.map AV.i)),(25,.arr 1 (v.2.map AV.i)),(30,.arr 1 (c.map AV.i))]⟩)) (s:=j) ?_ ?_
  ·replace h:=z;obtain⟨a1,b1,h⟩:=ae h;try refine ZF f ?_
   refine aw (sh:=(fun v=>⟨[(1,.lst .o 10 (g.map (aj .o))),(8,.pt 8 0 0),(10,.fn 67 [.pt 9 0 0,.pt 8 0 0]),(12,.i u),(13,.pt 13 0 0),(30,.sl 30 0 c.length),(31,.i (c.length:Int)),(32,.i d.1),(46,.b v)],[(8,.var (.sl 22 0 d.2.1.length)),(9,.var (.sl 25 0 d.2.2.length)),(13,.var (.agg [.i a.Id,.i a.Class,.i a.Work.Start,.lst .o 1 (a.Work.Fibers.map AV.i),.i a.WorkBlock.First,.i a.WorkBlock.Count,.i a.Spare.Start,.lst .o 1 (a.Spare.Fibers.map AV.i),.i a.SpareBlock.First,.i a.SpareBlock.Count])),(22,.arr 1 (d.2.1.map AV.i)),(25,.arr 1 (d.2.2.map AV.i)),(30,.arr 1 (c.map AV.i))]⟩)) (s:=a1) ?_ ?_
   ·replace h:=b1;obtain⟨m,h⟩|⟨m,h⟩:=aq h
    ·cases h;exact ZL (ZA f m) trivial
    ·cases h;exact ZL (ZA f m) trivial
   ·simp only[ZC,RL];obtain⟨p,h⟩|⟨p,h⟩:=aq h
    ·obtain⟨k1,c1,h⟩:=ae h;have f:=ZA f p;refine ZF f ?_;refine ZWG f (w_en _ _ _ _ c1) [1000000000,1000000001,1000000002,1000000003] [] ?_;cases h;exact ZL f trivial
    ·cases h;exact ZL (ZA f p) trivial
  ·simp only[ZC,SG];obtain⟨d1,g1,h⟩:=ae h;try refine ZF f ?_
   refine aw (sh:=(fun v=>⟨[(1,.lst .o 10 (g.map (aj .o))),(8,.pt 8 0 0),(10,.fn 67 [.pt 9 0 0,.pt 8 0 0]),(13,.pt 13 0 0),(30,.sl 30 0 c.length),(31,.i (c.length:Int)),(32,.i d.1),(63,.b v)],[(8,.var (.sl 22 0 j.1.length)),(9,.var (.sl 25 0 j.2.length)),(13,.var (.agg [.i a.Id,.i a.Class,.i a.Work.Start,.lst .o 1 (a.Work.Fibers.map AV.i),.i a.WorkBlock.First,.i a.WorkBlock.Count,.i a.Spare.Start,.lst .o 1 (a.Spare.Fibers.map AV.i),.i a.SpareBlock.First,.i a.SpareBlock.Count])),(22,.arr 1 (j.1.map AV.i)),(25,.arr 1 (j.2.map AV.i)),(30,.arr 1 (c.map AV.i))]⟩)) (s:=d1) ?_ ?_
   ·replace h:=g1;obtain⟨k,h⟩|⟨k,h⟩:=aq h
    ·cases h;exact ZL (ZA f k) trivial
    ·obtain⟨q,h⟩|⟨q,h⟩:=aq h
     ·cases h;exact ZL (ZA f (ZA k q)) trivial
     ·cases h;exact ZL (ZA f (ZA k q)) trivial
   ·simp only[ZC,Sr];obtain⟨t,h⟩|⟨t,h⟩:=aq h
    ·obtain⟨l1,i1,h⟩:=ae h;have f:=ZA f t;refine ZF f ?_;refine ZWG f (w_en _ _ _ _ i1) [1000000000,1000000001,1000000002,1000000003] [] ?_;cases h;exact ZL f e
    ·cases h;exact ZL (ZA f t) e
 ·cases h;exact ZL l e
theorem w_gs(a:ah)(c:List af)(g:List Int){r:List Int×Bool}(h:Lk a c g=some r):Ok Tryz.prog 12 [.agg [.lst .o 1 (a.Nodes.map AV.z),.lst .o 4 (a.Fibers.map (ai .o))],.lst .o 10 (c.map (aj .o)),.lst .o 1 (g.map AV.i)] (.tup [.lst .u 1 (r.1.map AV.i),.b r.2]):=by
 refine aA bd m12 rfl ?_;unfold Lk at h;simp only[ZC,A12,fY,aJ];obtain⟨w,k,h⟩:=ae h;refine ZF trivial ?_;refine ZSG trivial (Vm _ _ _ k) ?_;obtain⟨d,h⟩|⟨d,h⟩:=aq h
 ·cases h;exact ZL d @fY.eq_1
 ·obtain⟨x,l,h⟩:=ae h;obtain⟨m,j,h⟩:=aO h;have p:List.replicate (Int.toNat (a.Fibers.length:Int)) (.i 0:AV)=m.map AV.i:=by rw[<-j,List.map_replicate]
  obtain⟨y,q,h⟩:=ae h;have f:=ZA d (ZA (aI l) p);refine ZF f ?_;refine ZUG f (w_dq _ _ q) ?_;obtain⟨s,t,h⟩:=ae h;refine ZF f ?_;refine ZUG f (Gf _ _ _ t) ?_;obtain⟨a1,v,h⟩:=ae h;try refine ZF f ?_
  refine aw (aY (aC (w_ae c s) v ?_)) ?_
  ·exact ZK (ZA @MQ.eq_1 (ZA @zM.eq_1 (ZA j.symm @Zr)))
  ·simp only[ZC,zM,Rq];cases h;exact ZL f @fY.eq_1
def MA(a:List Int)(b:Int)(c:Int)(v:Int):St:=⟨[(0,.lst .o 1 (a.map AV.i)),(1,.i b),(2,.i c),(7,.i v)],[]⟩
theorem w_cd(c:List Int)(d:Int)(g:Int)(k:Int)(o:Int⊕(Unit⊕Bool))(h:DN c d g k=some o):AWP (OkS Tryz.prog) xF (qL [0,1,2,7] [] (MA c d g) (qS (qX 0 [] [] (bR)) (qR bJ (fun r=>.b r))) o) (MA c d g k):=by
 have e:=ZA @MA.eq_1 @bR.eq_1;unfold DN at h;simp only[ZC,MA,xF];obtain⟨a,h⟩|⟨a,h⟩:=aq h
 ·obtain⟨p,q,h⟩:=ae h;try refine ZF a ?_
  refine aw (sh:=(fun v=>⟨[(0,.lst .o 1 (c.map AV.i)),(1,.i d),(2,.i g),(7,.i k),(37,.b v)],[]⟩)) (s:=p) ?_ ?_
  ·replace h:=q;obtain⟨x,t,h⟩:=ae h;obtain⟨y,u,h⟩:=ae h;have f:=ZA a (aM t);refine ZF f ?_;refine ZSG f (w_c _ _ _ u) ?_;obtain⟨j,h⟩|⟨j,h⟩:=aq h
   ·cases h;exact ZL (ZA f j) trivial
   ·obtain⟨l,h⟩|⟨l,h⟩:=aq h
    ·obtain⟨z,w,h⟩:=ae h;cases h;exact ZL (ZA f (ZA j (ZA l (aM w)))) trivial
    ·cases h;exact ZL (ZA f (ZA j l)) trivial
  ·simp only[ZC,JK];obtain⟨m,h⟩|⟨m,h⟩:=aq h
   ·cases h;exact ZL (ZA a m) @bJ.eq_1
   ·cases h;exact ZL (ZA a m) e
 ·cases h;exact ZL a e
theorem w_fk(a:List Int)(c:Int)(d:Int){r:Bool}(h:Ep a c d=some r):Ok Tryz.prog 143 [.lst .o 1 (a.map AV.i),.i c,.i d] (.b r):=by
 refine aA bd m143 rfl ?_;unfold Ep at h;simp only[ZC,A143,bJ,aJ];obtain⟨g,j,h⟩:=ae h;try refine ZF trivial ?_
 refine bo (o:=g) (bu cJ (aC (w_cd a c d) j ?_)) (fun l hv=>?_) (fun m hv e τ hne hq=>?_)
 ·exact ZK (ZA @MA.eq_1 @bR.eq_1)
 ·subst hv;simp only[] at h;simp only[ZC,bR,Iu];cases h;exact ZL trivial @bJ.eq_1
 ·subst hv;simp only[] at h;obtain⟨rfl,k⟩:=hq;cases h;exact k
theorem w_fo(c:ah)(d:List af)(g:List Int){r:Bool}(h:Ff c d g=some r):Ok Tryz.prog 71 [.agg [.lst .o 1 (c.Nodes.map AV.z),.lst .o 4 (c.Fibers.map (ai .o))],.lst .o 10 (d.map (aj .o)),.lst .o 1 (g.map AV.i)] (.b r):=by
 refine aA bd m71 rfl ?_;unfold Ff at h;simp only[ZC,A71,bJ,aJ];obtain⟨m,j,h⟩:=ae h;refine ZF trivial ?_;refine ZSG trivial (w_dz _ _ j) ?_;obtain⟨a,h⟩|⟨a,h⟩:=aq h
 ·obtain⟨p,k,h⟩:=ae h;refine ZF a ?_;refine ZUG a (VD _ k) ?_;obtain⟨q,l,h⟩:=ae h;refine ZF a ?_;refine ZSG a (w_fk _ _ _ l) ?_;cases h;exact ZL a @bJ.eq_1
 ·cases h;exact ZL a @bJ.eq_1
def rY(b:Int)(a:List Int)(v:Int):St:=⟨[(0,.sl 1000000000 0 a.length),(1,.i b),(5,.i v)],[(1000000000,.arr 1 (a.map AV.i))]⟩
theorem w_ar(a:Int)(b:List Int)(g:Int)(o:Int⊕Int)(h:CE a b g=some o):AWP (OkS Tryz.prog) ob (qL [0,1,5] [1000000000] (rY a b) (qX 0 [0,1,5] [1000000000] (rY a b)) o) (rY a b g):=by
 have e:=ZA @rY.eq_1 @rY.eq_1;unfold CE at h;simp only[ZC,rY,ob];obtain⟨c,h⟩|⟨c,h⟩:=aq h
 ·obtain⟨k,i,h⟩:=ae h;obtain⟨l,j,h⟩:=ae h;obtain⟨d,h⟩|⟨d,h⟩:=aq h
  ·cases h;exact ZL (ZA c (ZA (aI i) (ZA j d))) e
  ·cases h;exact ZL (ZA c (ZA (aI i) (ZA j d))) e
 ·cases h;exact ZL c e
theorem w_fl(c:Int)(a:List Int){r:List Int}(h:EY c a=some r):OkM Tryz.prog 146 [.sl 1000000000 0 a.length,.i c] [(1000000000,.arr 1 (a.map AV.i))] (.sl 4 0 r.length) ([(4,.arr 1 (r.map AV.i))]):=by
 refine aZ (lr:=[4]) bd Vt rfl rfl ?_;unfold EY at h;simp only[ZC,Jp,az];obtain⟨g,c1,h⟩:=ae h;try refine ZF trivial ?_
 refine aw (aY (aC (w_ar c a) c1 ?_)) ?_
 ·exact ZK (ZA @rY.eq_1 @rY.eq_1)
 ·simp only[ZC,rY,tU];obtain⟨d1,g1,h⟩:=ae h;try refine ZF trivial ?_
  refine aw (sh:=(fun v=>⟨[(0,.sl 1000000000 0 a.length),(1,.i c),(5,.i g),(31,.b v)],[(1000000000,.arr 1 (a.map AV.i))]⟩)) (s:=d1) ?_ ?_
  ·replace h:=g1;obtain⟨l,h⟩|⟨l,h⟩:=aq h
   ·obtain⟨z1,i1,h⟩:=ae h;obtain⟨a2,j1,h⟩:=ae h;cases h;exact ZL (ZA l (ZA (aI i1) j1)) trivial
   ·cases h;exact ZL l trivial
  ·simp only[ZC,uf];obtain⟨m,h⟩|⟨m,h⟩:=aq h
   ·cases h;exact ZL m @az.eq_1
   ·obtain⟨b2,k1,h⟩:=ae h;obtain⟨p,l1,h⟩:=aO h;have m1:sub (a.map AV.i) 0 (Int.toNat g)=p.map AV.i:=by rw[bP,l1]
    obtain⟨c2,p1,h⟩:=ae h;obtain⟨q,d,h⟩:=aO h;have q1:Row.arr 1 [(.i c:AV)]=Row.arr 1 (q.map AV.i):=by rw[<-d];rfl
    have w:q.length=1:=by rw[<-d];rfl
    obtain⟨d2,s1,h⟩:=ae h;have x:=aI s1;obtain⟨j,k,h⟩:=aO h;have t1:p.map AV.i++q.map AV.i=j.map AV.i:=by rw[<-k,List.map_append]
    have y:p.length+1=j.length:=by simp[<-d,<-k]<;>omega
    rw[y] at x;obtain⟨g2,u1,h⟩:=ae h;obtain⟨t,v1,h⟩:=aO h;have w1:sub (a.map AV.i) (Int.toNat g) (a.length-(Int.toNat g))=t.map AV.i:=by rw[bP,v1]
    obtain⟨i2,x1,h⟩:=ae h;have z:=aI x1;obtain⟨a1,u,h⟩:=aO h;have y1:j.map AV.i++t.map AV.i=a1.map AV.i:=by rw[<-u,List.map_append]
    have b1:j.length+t.length=a1.length:=by simp[<-d,<-k,<-u]<;>omega
    rw[b1] at z;cases h;exact ZL (ZA m (ZA (aI k1) (ZA m1 (ZA (aI p1) (ZA q1 (ZA w (ZA x (ZA t1 (ZA y (ZA (aI u1) (ZA w1 (ZA z (ZA y1 b1))))))))))))) (ZA @az.eq_1 (ZA d.symm (ZA k.symm (ZA u.symm w))))
def S_y(b:List Int)(a:List (List Int))(c:Int×List Int)(v:Int×List Int):St:=⟨[(1,.lst .o 1 (b.map AV.i)),(5,.sl 5 0 a.length),(6,.sl 6 0 v.2.length),(7,.i c.1),(8,.i v.1)],[(5,.arr 1 (a.map (bI .u))),(6,.arr 1 (v.2.map AV.i))]⟩
def Qq(b:List Int)(a:List (List Int))(c:Int×List Int)(v:List Int):St:=⟨[(1,.lst .o 1 (b.map AV.i)),(5,.sl 5 0 a.length),(6,.sl 6 0 v.length),(7,.i c.1)],[(5,.arr 1 (a.map (bI .u))),(6,.arr 1 (v.map AV.i))]⟩
theorem w_y(a:List Int)(b:List (List Int))(c:Int×List Int)(g:Int×List Int)(o:(Int×List Int)⊕(List Int))(h:M_y a b c g=some o):AWP (OkS Tryz.prog) Gg (qL [1,5,6,7,8] [5,6] (S_y a b c) (qX 2 [1,5,6,7] [5,6] (Qq a b c)) o) (S_y a b c g):=by
 have e:=ZA @S_y.eq_1 @Qq.eq_1;unfold M_y at h;simp only[ZC,S_y,Gg];obtain⟨p,i,h⟩:=ae h;obtain⟨q,j,h⟩:=ae h;obtain⟨s,k,h⟩:=ae h;obtain⟨d,h⟩|⟨d,h⟩:=aq h
 ·obtain⟨t,l,h⟩:=ae h;obtain⟨u,m,h⟩:=ae h;have f:=ZA (aM i) (ZA (aI j) (ZA k (ZA d (aM l))));refine ZF f ?_;refine ZWG f (w_fl _ _ m) [4] [4200004] ?_;cases h;exact ZL f e
 ·cases h;exact ZL (ZA (aM i) (ZA (aI j) (ZA k d))) e
def Mh(b:List Int)(a:List (List Int))(v:Int×List Int):St:=⟨[(1,.lst .o 1 (b.map AV.i)),(5,.sl 5 0 a.length),(6,.sl 6 0 v.2.length),(7,.i v.1)],[(5,.arr 1 (a.map (bI .u))),(6,.arr 1 (v.2.map AV.i))]⟩
theorem w_cf(b:List Int)(a:List (List Int))(c:Int×List Int)(o:(Int×List Int)⊕(List Int))(h:Ds b a c=some o):AWP (OkS Tryz.prog) Gu (qL [1,5,6,7] [5,6] (Mh b a) (qX 0 [6] [6] (lw)) o) (Mh b a c):=by
 have e:=ZA @Mh.eq_1 @lw.eq_1;unfold Ds at h;simp only[ZC,Mh,Gu];obtain⟨d,h⟩|⟨d,h⟩:=aq h
 ·obtain⟨k,l,h⟩:=ae h;try refine ZF d ?_
  refine aw (sh:=(fun v=>⟨[(1,.lst .o 1 (b.map AV.i)),(5,.sl 5 0 a.length),(6,.sl 6 0 v.length),(7,.i c.1)],[(5,.arr 1 (a.map (bI .u))),(6,.arr 1 (v.map AV.i))]⟩)) (s:=k) ?_ ?_
  ·replace h:=l;obtain⟨m,g,h⟩:=ae h;try refine ZF d ?_
   first|refine cK (aY (aC (w_y b a c) g ?_)) (fun τ j=>?_)|refine dx (aC (w_y b a c) g ?_) (fun τ j=>?_)
   ·exact ZK (ZA @S_y.eq_1 @Qq.eq_1)
   ·cases h;try refine ZF trivial ?_
    refine⟨rfl,Shp.sub j (by decide) (by decide) ?_⟩;exact ZK @Qq.eq_1
  ·simp only[ZC,Ri];cases h;exact ZL d e
 ·cases h;exact ZL d e
theorem w_dr(a:ah)(b:List Int){r:List Int}(h:Bn a b=some r):Ok Tryz.prog 73 [.agg [.lst .o 1 (a.Nodes.map AV.z),.lst .o 4 (a.Fibers.map (ai .o))],.lst .o 1 (b.map AV.i)] (.lst .u 1 (r.map AV.i)):=by
 refine aA bd m73 rfl ?_;unfold Bn at h;simp only[ZC,A73,az,aJ];obtain⟨c,d,h⟩:=ae h;refine ZF trivial ?_;refine ZUG trivial (VD _ d) ?_;obtain⟨j,g,h⟩:=ae h;try refine ZF trivial ?_
 refine aw (aY (aC (w_cf b c) g ?_)) ?_
 ·exact ZK (ZA @Mh.eq_1 @lw.eq_1)
 ·simp only[ZC,lw,Sm];cases h;exact ZL trivial @az.eq_1
def S_z(d:List af)(c:List Int)(b:Int×List Int)(a:af)(v:Int×Int):St:=⟨[(1,.lst .o 10 (d.map (aj .o))),(7,.sl 7 0 c.length),(8,.sl 8 0 b.2.length),(9,.i b.1),(10,.pt 10 0 0),(13,.i v.1),(14,.i v.2)],[(7,.arr 1 (c.map AV.i)),(8,.arr 1 (b.2.map AV.i)),(10,.var (.agg [.i a.Id,.i a.Class,.i a.Work.Start,.lst .o 1 (a.Work.Fibers.map AV.i),.i a.WorkBlock.First,.i a.WorkBlock.Count,.i a.Spare.Start,.lst .o 1 (a.Spare.Fibers.map AV.i),.i a.SpareBlock.First,.i a.SpareBlock.Count]))]⟩
def Nx(c:List af)(b:List Int)(a:Int×List Int)(v:Int):St:=⟨[(1,.lst .o 10 (c.map (aj .o))),(7,.sl 7 0 b.length),(8,.sl 8 0 a.2.length),(9,.i a.1),(13,.i v)],[(7,.arr 1 (b.map AV.i)),(8,.arr 1 (a.2.map AV.i))]⟩
theorem w_z(g:List af)(j:List Int)(c:Int×List Int)(a:af)(k:Int×Int)(o:(Int×Int)⊕Int)(h:M_z g c a k=some o):AWP (OkS Tryz.prog) IB (qL [1,7,8,9,10,13,14] [7,8,10] (S_z g j c a) (qX 3 [1,7,8,9,13] [7,8] (Nx g j c)) o) (S_z g j c a k):=by
 have e:=ZA @S_z.eq_1 @Nx.eq_1;unfold M_z at h;simp only[ZC,S_z,IB];obtain⟨d,h⟩|⟨d,h⟩:=aq h
 ·obtain⟨t,u,h⟩:=ae h;try refine ZF d ?_
  refine aw (sh:=(fun v=>⟨[(1,.lst .o 10 (g.map (aj .o))),(7,.sl 7 0 j.length),(8,.sl 8 0 c.2.length),(9,.i c.1),(10,.pt 10 0 0),(13,.i k.1),(14,.i k.2),(81,.b v)],[(7,.arr 1 (j.map AV.i)),(8,.arr 1 (c.2.map AV.i)),(10,.var (.agg [.i a.Id,.i a.Class,.i a.Work.Start,.lst .o 1 (a.Work.Fibers.map AV.i),.i a.WorkBlock.First,.i a.WorkBlock.Count,.i a.Spare.Start,.lst .o 1 (a.Spare.Fibers.map AV.i),.i a.SpareBlock.First,.i a.SpareBlock.Count]))]⟩)) (s:=t) ?_ ?_
  ·replace h:=u;obtain⟨y,p,h⟩:=ae h;obtain⟨z,q,h⟩:=ae h;obtain⟨l,h⟩|⟨l,h⟩:=aq h
   ·obtain⟨a1,w,h⟩:=ae h;obtain⟨b1,x,h⟩:=ae h;have f:=ZA d (ZA (aI p) (ZA q (ZA l (aM w))));refine ZF f ?_;refine ZSG f (KE _ _ _ _ x) ?_;cases h;exact ZL f trivial
   ·cases h;exact ZL (ZA d (ZA (aI p) (ZA q l))) trivial
  ·simp only[ZC,SJ];obtain⟨m,h⟩|⟨m,h⟩:=aq h
   ·cases h;exact ZL (ZA d m) e
   ·cases h;exact ZL (ZA d m) e
 ·cases h;exact ZL d e
def FH(b:List af)(a:List Int)(v:Int×List Int):St:=⟨[(1,.lst .o 10 (b.map (aj .o))),(7,.sl 7 0 a.length),(8,.sl 8 0 v.2.length),(9,.i v.1)],[(7,.arr 1 (a.map AV.i)),(8,.arr 1 (v.2.map AV.i))]⟩
theorem w_cg(g:List af)(d:List Int)(a:Int×List Int)(o:(Int×List Int)⊕(List Int))(h:CT g d a=some o):AWP (OkS Tryz.prog) Iv (qL [1,7,8,9] [7,8] (FH g d) (qX 0 [8] [8] (mR)) o) (FH g d a):=by
 have e:=ZA @FH.eq_1 @mR.eq_1;unfold CT at h;simp only[ZC,FH,Iv];obtain⟨u,h⟩|⟨u,h⟩:=aq h
 ·obtain⟨c,c2,h⟩:=ae h;obtain⟨d2,g2,h⟩:=ae h;have f:=ZA u (aM c2);refine ZF f ?_;refine ZSG f (Uj _ _ g2) ?_;obtain⟨i2,j2,h⟩:=ae h;refine ZF f ?_;refine ZSG f (Uj _ _ j2) ?_;obtain⟨k2,l2,h⟩:=ae h;try refine ZF f ?_
  refine aw (sh:=(fun v=>⟨[(1,.lst .o 10 (g.map (aj .o))),(7,.sl 7 0 d.length),(8,.sl 8 0 a.2.length),(9,.i a.1),(10,.pt 10 0 0),(11,.b d2),(12,.b i2),(40,.b v)],[(7,.arr 1 (d.map AV.i)),(8,.arr 1 (a.2.map AV.i)),(10,.var (.agg [.i c.Id,.i c.Class,.i c.Work.Start,.lst .o 1 (c.Work.Fibers.map AV.i),.i c.WorkBlock.First,.i c.WorkBlock.Count,.i c.Spare.Start,.lst .o 1 (c.Spare.Fibers.map AV.i),.i c.SpareBlock.First,.i c.SpareBlock.Count]))]⟩)) (s:=k2) ?_ ?_
  ·replace h:=l2;obtain⟨k,h⟩|⟨k,h⟩:=aq h
   ·obtain⟨w,h⟩|⟨w,h⟩:=aq h
    ·cases h;exact ZL (ZA f (ZA k w)) trivial
    ·cases h;exact ZL (ZA f (ZA k w)) trivial
   ·cases h;exact ZL (ZA f k) trivial
  ·simp only[ZC,Rc];obtain⟨j,h⟩|⟨j,h⟩:=aq h
   ·obtain⟨x,l,h⟩:=aO h;have m2:Row.arr 1 [(.i 3:AV)]=Row.arr 1 (x.map AV.i):=by rw[<-l];rfl
    have j1:x.length=1:=by rw[<-l];rfl
    obtain⟨d3,p2,h⟩:=ae h;have k1:=aI p2;obtain⟨l1,y,h⟩:=aO h;have q2:a.2.map AV.i++x.map AV.i=l1.map AV.i:=by rw[<-y,List.map_append]
    have m1:a.2.length+1=l1.length:=by simp[<-l,<-y]<;>omega
    rw[m1] at k1;cases h;exact ZL (ZA f (ZA j (ZA m2 (ZA j1 (ZA k1 (ZA q2 m1)))))) (ZA e (ZA l.symm (ZA y.symm j1)))
   ·obtain⟨m,h⟩|⟨m,h⟩:=aq h
    ·obtain⟨s2,t2,h⟩:=ae h;have f:=ZA f (ZA j m);try refine ZF f ?_
     refine aw (aY (aC (w_z g d a c) t2 ?_)) ?_
     ·exact ZK (ZA @S_z.eq_1 @Nx.eq_1)
     ·simp only[ZC,Nx,Ru];obtain⟨z,p,h⟩:=aO h;have u2:Row.arr 1 [(.i s2:AV)]=Row.arr 1 (z.map AV.i):=by rw[<-p];rfl
      have p1:z.length=1:=by rw[<-p];rfl
      obtain⟨g3,v2,h⟩:=ae h;have q1:=aI v2;obtain⟨s1,a1,h⟩:=aO h;have w2:a.2.map AV.i++z.map AV.i=s1.map AV.i:=by rw[<-a1,List.map_append]
      have t1:a.2.length+1=s1.length:=by simp[<-p,<-a1]<;>omega
      rw[t1] at q1;cases h;exact ZL (ZA f (ZA u2 (ZA p1 (ZA q1 (ZA w2 t1))))) (ZA e (ZA p.symm (ZA a1.symm p1)))
    ·obtain⟨b1,h⟩|⟨b1,h⟩:=aq h
     ·obtain⟨c1,q,h⟩:=aO h;have x2:Row.arr 1 [(.i 2:AV)]=Row.arr 1 (c1.map AV.i):=by rw[<-q];rfl
      have u1:c1.length=1:=by rw[<-q];rfl
      obtain⟨i3,y2,h⟩:=ae h;have v1:=aI y2;obtain⟨w1,d1,h⟩:=aO h;have z2:a.2.map AV.i++c1.map AV.i=w1.map AV.i:=by rw[<-d1,List.map_append]
      have x1:a.2.length+1=w1.length:=by simp[<-q,<-d1]<;>omega
      rw[x1] at v1;cases h;exact ZL (ZA f (ZA j (ZA m (ZA b1 (ZA x2 (ZA u1 (ZA v1 (ZA z2 x1)))))))) (ZA e (ZA q.symm (ZA d1.symm u1)))
     ·obtain⟨g1,t,h⟩:=aO h;have a3:Row.arr 1 [(.i 0:AV)]=Row.arr 1 (g1.map AV.i):=by rw[<-t];rfl
      have y1:g1.length=1:=by rw[<-t];rfl
      obtain⟨j3,b3,h⟩:=ae h;have z1:=aI b3;obtain⟨a2,i1,h⟩:=aO h;have c3:a.2.map AV.i++g1.map AV.i=a2.map AV.i:=by rw[<-i1,List.map_append]
      have b2:a.2.length+1=a2.length:=by simp[<-t,<-i1]<;>omega
      rw[b2] at z1;cases h;exact ZL (ZA f (ZA j (ZA m (ZA b1 (ZA a3 (ZA y1 (ZA z1 (ZA c3 b2)))))))) (ZA e (ZA t.symm (ZA i1.symm y1)))
 ·cases h;exact ZL u e
theorem w_fn(a:ah)(b:List af)(c:List Int){r:List Int}(h:Ek a b c=some r):Ok Tryz.prog 72 [.agg [.lst .o 1 (a.Nodes.map AV.z),.lst .o 4 (a.Fibers.map (ai .o))],.lst .o 10 (b.map (aj .o)),.lst .o 1 (c.map AV.i)] (.lst .u 1 (r.map AV.i)):=by
 refine aA bd m72 rfl ?_;unfold Ek at h;simp only[ZC,A72,bJ,aJ];obtain⟨d,g,h⟩:=ae h;refine ZF trivial ?_;refine ZUG trivial (w_dr _ _ g) ?_;obtain⟨k,j,h⟩:=ae h;try refine ZF trivial ?_
 refine aw (aY (aC (w_cg b d) j ?_)) ?_
 ·exact ZK (ZA @FH.eq_1 @mR.eq_1)
 ·simp only[ZC,mR,Rd];cases h;exact ZL trivial @bJ.eq_1
def S_o(a:ah)(d:List af)(b:List Int)(c:List Int)(g:Int×List Int)(v:Int×List Int):St:=⟨[(1,.lst .o 10 (d.map (aj .o))),(3,.pt 3 0 0),(8,.sl 8 0 b.length),(9,.sl 9 0 c.length),(10,.sl 10 0 v.2.length),(11,.i g.1),(12,.i v.1)],[(3,.var (.agg [.lst .o 1 (a.Nodes.map AV.z),.lst .o 4 (a.Fibers.map (ai .o))])),(8,.arr 1 (b.map AV.i)),(9,.arr 1 (c.map AV.i)),(10,.arr 1 (v.2.map AV.i))]⟩
def OH(a:ah)(d:List af)(b:List Int)(c:List Int)(g:Int×List Int)(v:List Int):St:=⟨[(1,.lst .o 10 (d.map (aj .o))),(3,.pt 3 0 0),(8,.sl 8 0 b.length),(9,.sl 9 0 c.length),(10,.sl 10 0 v.length),(11,.i g.1)],[(3,.var (.agg [.lst .o 1 (a.Nodes.map AV.z),.lst .o 4 (a.Fibers.map (ai .o))])),(8,.arr 1 (b.map AV.i)),(9,.arr 1 (c.map AV.i)),(10,.arr 1 (v.map AV.i))]⟩
theorem w_o(g:ah)(l:List af)(c:List Int)(d:List Int)(k:Int×List Int)(j:Int×List Int)(o:(Int×List Int)⊕(List Int))(h:M_o l c d k j=some o):AWP (OkS Tryz.prog) DZ (qL [1,3,8,9,10,11,12] [3,8,9,10] (S_o g l c d k) (qX 2 [1,3,8,9,10,11] [3,8,9,10] (OH g l c d k)) o) (S_o g l c d k j):=by
 have e:=ZA @S_o.eq_1 @OH.eq_1;unfold M_o at h;simp only[ZC,S_o,DZ];obtain⟨l1,m1,h⟩:=ae h;try refine ZF trivial ?_
 refine aw (sh:=(fun v=>⟨[(1,.lst .o 10 (l.map (aj .o))),(3,.pt 3 0 0),(8,.sl 8 0 c.length),(9,.sl 9 0 d.length),(10,.sl 10 0 j.2.length),(11,.i k.1),(12,.i j.1),(47,.b v)],[(3,.var (.agg [.lst .o 1 (g.Nodes.map AV.z),.lst .o 4 (g.Fibers.map (ai .o))])),(8,.arr 1 (c.map AV.i)),(9,.arr 1 (d.map AV.i)),(10,.arr 1 (j.2.map AV.i))]⟩)) (s:=l1) ?_ ?_
 ·replace h:=m1;obtain⟨m,h⟩|⟨m,h⟩:=aq h
  ·obtain⟨t2,p1,h⟩:=ae h;refine ZF m ?_;refine ZSG m (w_m _ _ p1) ?_;cases h;exact ZL m trivial
  ·cases h;exact ZL m trivial
 ·simp only[ZC,Rj];obtain⟨w,h⟩|⟨w,h⟩:=aq h
  ·obtain⟨a,q1,h⟩:=ae h;obtain⟨q,s1,h⟩:=ae h;have f:=ZA w (aM q1);try refine ZF f ?_
   refine aw (sh:=(fun v=>⟨[(1,.lst .o 10 (l.map (aj .o))),(3,.pt 3 0 0),(8,.sl 8 0 c.length),(9,.sl 9 0 d.length),(10,.sl 10 0 v.length),(11,.i k.1),(12,.i j.1),(13,.pt 13 0 0)],[(3,.var (.agg [.lst .o 1 (g.Nodes.map AV.z),.lst .o 4 (g.Fibers.map (ai .o))])),(8,.arr 1 (c.map AV.i)),(9,.arr 1 (d.map AV.i)),(10,.arr 1 (v.map AV.i)),(13,.var (.agg [.i a.Id,.i a.Class,.i a.Work.Start,.lst .o 1 (a.Work.Fibers.map AV.i),.i a.WorkBlock.First,.i a.WorkBlock.Count,.i a.Spare.Start,.lst .o 1 (a.Spare.Fibers.map AV.i),.i a.SpareBlock.First,.i a.SpareBlock.Count]))]⟩)) (s:=q) ?_ ?_
   ·replace h:=s1;obtain⟨t1,u1,h⟩:=ae h;try refine ZF f ?_
    refine aw (sh:=(fun v=>⟨[(1,.lst .o 10 (l.map (aj .o))),(3,.pt 3 0 0),(8,.sl 8 0 c.length),(9,.sl 9 0 d.length),(10,.sl 10 0 j.2.length),(11,.i k.1),(12,.i j.1),(13,.pt 13 0 0),(72,.b v)],[(3,.var (.agg [.lst .o 1 (g.Nodes.map AV.z),.lst .o 4 (g.Fibers.map (ai .o))])),(8,.arr 1 (c.map AV.i)),(9,.arr 1 (d.map AV.i)),(10,.arr 1 (j.2.map AV.i)),(13,.var (.agg [.i a.Id,.i a.Class,.i a.Work.Start,.lst .o 1 (a.Work.Fibers.map AV.i),.i a.WorkBlock.First,.i a.WorkBlock.Count,.i a.Spare.Start,.lst .o 1 (a.Spare.Fibers.map AV.i),.i a.SpareBlock.First,.i a.SpareBlock.Count]))]⟩)) (s:=t1) ?_ ?_
    ·replace h:=u1;obtain⟨u2,v1,h⟩:=ae h;refine ZF f ?_;refine ZSG f (w_m _ _ v1) ?_;obtain⟨t,h⟩|⟨t,h⟩:=aq h
     ·obtain⟨v2,g1,h⟩:=ae h;obtain⟨w2,i1,h⟩:=ae h;obtain⟨x,h⟩|⟨x,h⟩:=aq h
      ·cases h;exact ZL (ZA f (ZA t (ZA (aI g1) (ZA i1 x)))) trivial
      ·cases h;exact ZL (ZA f (ZA t (ZA (aI g1) (ZA i1 x)))) trivial
     ·cases h;exact ZL (ZA f t) trivial
    ·simp only[ZC,Rt];obtain⟨y,h⟩|⟨y,h⟩:=aq h
     ·obtain⟨x2,w1,h⟩:=ae h;obtain⟨x1,y1,h⟩:=ae h;obtain⟨z1,a2,h⟩:=ae h;have f:=ZA f (ZA y (ZA (aI w1) y1));refine ZF f ?_;refine ZSG f (Pg _ a2) ?_;obtain⟨b2,j1,h⟩:=aO h;have c2:(j.2.map AV.i).set (Int.toNat k.1) (.i (bits .or .i64 x1 z1))=b2.map AV.i:=by rw[<-j1,List.map_set]
      cases h;exact ZL (ZA f c2) j1.symm
     ·cases h;exact ZL (ZA f y) trivial
   ·simp only[ZC,RB];obtain⟨d2,g2,h⟩:=ae h;try refine ZF f ?_
    refine aw (sh:=(fun v=>⟨[(1,.lst .o 10 (l.map (aj .o))),(3,.pt 3 0 0),(8,.sl 8 0 c.length),(9,.sl 9 0 d.length),(10,.sl 10 0 q.length),(11,.i k.1),(12,.i j.1),(13,.pt 13 0 0),(107,.b v)],[(3,.var (.agg [.lst .o 1 (g.Nodes.map AV.z),.lst .o 4 (g.Fibers.map (ai .o))])),(8,.arr 1 (c.map AV.i)),(9,.arr 1 (d.map AV.i)),(10,.arr 1 (q.map AV.i)),(13,.var (.agg [.i a.Id,.i a.Class,.i a.Work.Start,.lst .o 1 (a.Work.Fibers.map AV.i),.i a.WorkBlock.First,.i a.WorkBlock.Count,.i a.Spare.Start,.lst .o 1 (a.Spare.Fibers.map AV.i),.i a.SpareBlock.First,.i a.SpareBlock.Count]))]⟩)) (s:=d2) ?_ ?_
    ·replace h:=g2;obtain⟨y2,i2,h⟩:=ae h;refine ZF f ?_;refine ZSG f (w_m _ _ i2) ?_;obtain⟨p,h⟩|⟨p,h⟩:=aq h
     ·obtain⟨z2,a1,h⟩:=ae h;obtain⟨a3,b1,h⟩:=ae h;obtain⟨u,h⟩|⟨u,h⟩:=aq h
      ·cases h;exact ZL (ZA f (ZA p (ZA (aI a1) (ZA b1 u)))) trivial
      ·obtain⟨c1,h⟩|⟨c1,h⟩:=aq h
       ·cases h;exact ZL (ZA f (ZA p (ZA (aI a1) (ZA b1 (ZA u c1))))) trivial
       ·cases h;exact ZL (ZA f (ZA p (ZA (aI a1) (ZA b1 (ZA u c1))))) trivial
     ·cases h;exact ZL (ZA f p) trivial
    ·simp only[ZC,Sk];obtain⟨d1,h⟩|⟨d1,h⟩:=aq h
     ·obtain⟨b3,j2,h⟩:=ae h;obtain⟨k2,l2,h⟩:=ae h;obtain⟨m2,p2,h⟩:=ae h;have f:=ZA f (ZA d1 (ZA (aI j2) l2));refine ZF f ?_;refine ZSG f (Pg _ p2) ?_;obtain⟨q2,k1,h⟩:=aO h;have s2:(q.map AV.i).set (Int.toNat k.1) (.i (bits .or .i64 k2 m2))=q2.map AV.i:=by rw[<-k1,List.map_set]
      cases h;exact ZL (ZA f s2) (ZA e k1.symm)
     ·cases h;exact ZL (ZA f d1) e
  ·cases h;exact ZL w e
def Ii(a:ah)(d:List af)(b:List Int)(c:List Int)(v:Int×List Int):St:=⟨[(1,.lst .o 10 (d.map (aj .o))),(3,.pt 3 0 0),(8,.sl 8 0 b.length),(9,.sl 9 0 c.length),(10,.sl 10 0 v.2.length),(11,.i v.1)],[(3,.var (.agg [.lst .o 1 (a.Nodes.map AV.z),.lst .o 4 (a.Fibers.map (ai .o))])),(8,.arr 1 (b.map AV.i)),(9,.arr 1 (c.map AV.i)),(10,.arr 1 (v.2.map AV.i))]⟩
def yu(v:List Int):St:=⟨[(10,.sl 10 0 v.length)],[(10,.arr 1 (v.map AV.i))]⟩
theorem w_aq(a:ah)(d:List af)(b:List Int)(c:List Int)(g:Int×List Int)(o:(Int×List Int)⊕(List Int))(h:Bd a d b c g=some o):AWP (OkS Tryz.prog) HH (qL [1,3,8,9,10,11] [3,8,9,10] (Ii a d b c) (qX 0 [10] [10] (yu)) o) (Ii a d b c g):=by
 have e:=ZA @Ii.eq_1 @yu.eq_1;unfold Bd at h;simp only[ZC,Ii,HH];obtain⟨j,h⟩|⟨j,h⟩:=aq h
 ·obtain⟨m,p,h⟩:=ae h;try refine ZF j ?_
  refine aw (sh:=(fun v=>⟨[(1,.lst .o 10 (d.map (aj .o))),(3,.pt 3 0 0),(8,.sl 8 0 b.length),(9,.sl 9 0 c.length),(10,.sl 10 0 v.length),(11,.i g.1)],[(3,.var (.agg [.lst .o 1 (a.Nodes.map AV.z),.lst .o 4 (a.Fibers.map (ai .o))])),(8,.arr 1 (b.map AV.i)),(9,.arr 1 (c.map AV.i)),(10,.arr 1 (v.map AV.i))]⟩)) (s:=m) ?_ ?_
  ·replace h:=p;obtain⟨q,k,h⟩:=ae h;try refine ZF j ?_
   first|refine cK (aY (aC (w_o a d b c g) k ?_)) (fun τ l=>?_)|refine dx (aC (w_o a d b c g) k ?_) (fun τ l=>?_)
   ·exact ZK (ZA @S_o.eq_1 @OH.eq_1)
   ·cases h;try refine ZF trivial ?_
    refine⟨rfl,Shp.sub l (by decide) (by decide) ?_⟩;exact ZK @OH.eq_1
  ·simp only[ZC,Se];cases h;exact ZL j e
 ·cases h;exact ZL j e
theorem w_gt(c:ah)(d:List af)(g:List Int){r:List Int×Bool}(h:GI c d g=some r):Ok Tryz.prog 13 [.agg [.lst .o 1 (c.Nodes.map AV.z),.lst .o 4 (c.Fibers.map (ai .o))],.lst .o 10 (d.map (aj .o)),.lst .o 1 (g.map AV.i)] (.tup [.lst .u 1 (r.1.map AV.i),.b r.2]):=by
 refine aA bd m13 rfl ?_;unfold GI at h;simp only[ZC,A13,fY,aJ];obtain⟨x,k,h⟩:=ae h;refine ZF trivial ?_;refine ZSG trivial (w_fo _ _ _ k) ?_;obtain⟨a,h⟩|⟨a,h⟩:=aq h
 ·cases h;exact ZL a @fY.eq_1
 ·obtain⟨l,m,h⟩:=ae h;refine ZF a ?_;refine ZUG a (w_fn _ _ _ m) ?_;obtain⟨p,q,h⟩:=ae h;refine ZF a ?_;refine ZUG a (w_dr _ _ q) ?_;obtain⟨y,s,h⟩:=ae h;obtain⟨t,j,h⟩:=aO h;have v:List.replicate (Int.toNat (c.Fibers.length:Int)) (.i 0:AV)=t.map AV.i:=by rw[<-j,List.map_replicate]
  obtain⟨a1,w,h⟩:=ae h;have f:=ZA a (ZA (aI s) v);try refine ZF f ?_
  refine aw (aY (aC (w_aq c d l p) w ?_)) ?_
  ·exact ZK (ZA @Ii.eq_1 (ZA @yu.eq_1 (ZA j.symm @Zr)))
  ·simp only[ZC,yu,Rv];cases h;exact ZL f @fY.eq_1
def ED(a:List Int)(b:List Int)(v:Int):St:=⟨[(0,.lst .o 1 (a.map AV.i)),(1,.lst .o 1 (b.map AV.i)),(5,.i v)],[]⟩
theorem w_ca(c:List Int)(d:List Int)(i:Int)(o:Int⊕(Unit⊕Bool))(h:DT c d i=some o):AWP (OkS Tryz.prog) Iy (qL [0,1,5] [] (ED c d) (qS (qX 0 [] [] (bR)) (qR az (fun r=>.b r))) o) (ED c d i):=by
 have e:=ZA @ED.eq_1 @bR.eq_1;unfold DT at h;simp only[ZC,ED,Iy];obtain⟨a,h⟩|⟨a,h⟩:=aq h
 ·obtain⟨l,j,h⟩:=ae h;obtain⟨m,k,h⟩:=ae h;obtain⟨g,h⟩|⟨g,h⟩:=aq h
  ·cases h;exact ZL (ZA a (ZA (aM j) (ZA (aM k) g))) @az.eq_1
  ·cases h;exact ZL (ZA a (ZA (aM j) (ZA (aM k) g))) e
 ·cases h;exact ZL a e
theorem w_fe(c:List Int)(d:List Int){r:Bool}(h:FX c d=some r):Ok Tryz.prog 14 [.lst .o 1 (c.map AV.i),.lst .o 1 (d.map AV.i)] (.b r):=by
 refine aA bd m14 rfl ?_;unfold FX at h;simp only[ZC,A14,az,aJ];obtain⟨a,h⟩|⟨a,h⟩:=aq h
 ·cases h;exact ZL a @az.eq_1
 ·obtain⟨g,j,h⟩:=ae h;try refine ZF a ?_
  refine bo (o:=g) (bu cJ (aC (w_ca c d) j ?_)) (fun l hv=>?_) (fun m hv e τ hne hq=>?_)
  ·exact ZK (ZA @ED.eq_1 @bR.eq_1)
  ·subst hv;simp only[] at h;simp only[ZC,bR,RG];cases h;exact ZL a @az.eq_1
  ·subst hv;simp only[] at h;obtain⟨rfl,k⟩:=hq;cases h;exact k
theorem w_dp(b:List Int){r:List Int}(h:AF b=some r):Ok Tryz.prog 80 [.lst .o 1 (b.map AV.i)] (.lst .u 1 (r.map AV.i)):=by
 refine aA bd m80 rfl ?_;unfold AF at h;simp only[ZC,A80,V10,aJ];obtain⟨a,h⟩|⟨a,h⟩:=aq h
 ·refine ZF a ?_;refine And.intro ?_ ?_
  ·replace h:=VU h;cases h;exact ZL a @V10.eq_1
  ·replace h:=Wr h;obtain⟨g,c,h⟩:=ae h;cases h;exact ZL (ZA a (aI c)) @V10.eq_1
 ·obtain⟨j,d,h⟩:=ae h;cases h;exact ZL (ZA a (aI d)) @V10.eq_1
def Ki(d:List Int)(b:ah)(g:List af)(c:List Int)(j:Int)(a:List Int)(v:Int):St:=⟨[(0,.lst .u 1 (d.map AV.i)),(2,.pt 1000000001 0 0),(3,.pt 1000000002 0 0),(4,.pt 1000000004 0 0),(12,.sl 12 0 a.length),(13,.i (a.length:Int)),(14,.i v)],[(12,.arr 1 (a.map AV.i)),(470000128,.arr 1 (c.map AV.i)),(1000000000,.var (.agg [.lst .o 1 (((b).Nodes).map AV.z),.lst .o 4 (((b).Fibers).map (ai .o))])),(1000000001,.var (.lst .o 10 (g.map (aj .o)))),(1000000002,.var (.sl 470000128 0 c.length)),(1000000004,.var (.i j))]⟩
def mo(a:ah)(c:List af)(b:List Int)(d:Int)(v:Unit):St:=⟨[],[(470000128,.arr 1 (b.map AV.i)),(1000000000,.var (.agg [.lst .o 1 (((a).Nodes).map AV.z),.lst .o 4 (((a).Fibers).map (ai .o))])),(1000000001,.var (.lst .o 10 (c.map (aj .o)))),(1000000002,.var (.sl 470000128 0 b.length)),(1000000004,.var (.i d))]⟩
theorem w_af(j:List Int)(a:ah)(d:List af)(g:List Int)(k:Int)(c:List Int)(l:Int)(o:Int⊕(Unit⊕(Bool×ah×List af×List Int×Int)))(h:VG j a d c l=some o):AWP (OkS Tryz.prog) rP (qL [0,2,3,4,12,13,14] [12,470000128,1000000000,1000000001,1000000002,1000000004] (Ki j a d g k c) (qS (qX 0 [] [470000128,1000000000,1000000001,1000000002,1000000004] (mo a d g k)) (qM bJ [470000128,1000000000,1000000001,1000000002,1000000004] (fun(r:Bool×ah×List af×List Int×Int)=>.b r.1) (fun(r:Bool×ah×List af×List Int×Int)=>[(470000128,.arr 1 (r.2.2.2.1.map AV.i)),(1000000000,.var (.agg [.lst .o 1 (((r.2.1).Nodes).map AV.z),.lst .o 4 (((r.2.1).Fibers).map (ai .o))])),(1000000001,.var (.lst .o 10 (r.2.2.1.map (aj .o)))),(1000000002,.var (.sl 470000128 0 r.2.2.2.1.length)),(1000000004,.var (.i r.2.2.2.2))]))) o) (Ki j a d g k c l):=by
 have e:=ZA @Ki.eq_1 @mo.eq_1;unfold VG at h;simp only[ZC,Ki,rP];obtain⟨m,h⟩|⟨m,h⟩:=aq h
 ·obtain⟨d1,t,h⟩:=ae h;obtain⟨g1,w,h⟩:=ae h;obtain⟨x,y,h⟩:=ae h;have f:=ZA m (ZA (aI t) w);try refine ZF f ?_
  refine aw (sh:=(fun v=>⟨[(0,.lst .u 1 (j.map AV.i)),(2,.pt 1000000001 0 0),(3,.pt 1000000002 0 0),(4,.pt 1000000004 0 0),(7,.i l),(12,.sl 12 0 c.length),(13,.i (c.length:Int)),(14,.i l),(28,.b v)],[(12,.arr 1 (c.map AV.i)),(470000128,.arr 1 (g.map AV.i)),(1000000000,.var (.agg [.lst .o 1 (((a).Nodes).map AV.z),.lst .o 4 (((a).Fibers).map (ai .o))])),(1000000001,.var (.lst .o 10 (d.map (aj .o)))),(1000000002,.var (.sl 470000128 0 g.length)),(1000000004,.var (.i k))]⟩)) (s:=x) ?_ ?_
  ·replace h:=y;obtain⟨p,h⟩|⟨p,h⟩:=aq h
   ·obtain⟨i1,a1,h⟩:=ae h;cases h;exact ZL (ZA f (ZA p (aM a1))) trivial
   ·cases h;exact ZL (ZA f p) trivial
  ·simp only[ZC,zT];obtain⟨q,h⟩|⟨q,h⟩:=aq h
   ·obtain⟨j1,b1,h⟩:=ae h;have f:=ZA f q;refine ZF f ?_;refine ZUG f (w_dp _ b1) ?_;obtain⟨k1,c1,h⟩:=ae h;cases h;exact ZL (ZA f (aM c1)) @bJ.eq_1
   ·cases h;exact ZL (ZA f q) e
 ·cases h;exact ZL m e
theorem w_hl(d:List Int)(a:ah)(g:List af)(c:List Int)(j:Int){r:Bool×ah×List af×List Int×Int}(h:Vp d a g c j=some r):OkM Tryz.prog 79 [.lst .u 1 (d.map AV.i),.pt 1000000000 0 0,.pt 1000000001 0 0,.pt 1000000002 0 0,.pt 1000000004 0 0] [(1000000000,.var (.agg [.lst .o 1 (((a).Nodes).map AV.z),.lst .o 4 (((a).Fibers).map (ai .o))])),(1000000001,.var (.lst .o 10 (g.map (aj .o)))),(1000000002,.var (.sl 1000000003 0 c.length)),(1000000003,.arr 1 (c.map AV.i)),(1000000004,.var (.i j))] (.b r.1) ([(470000128,.arr 1 (r.2.2.2.1.map AV.i)),(1000000000,.var (.agg [.lst .o 1 (((r.2.1).Nodes).map AV.z),.lst .o 4 (((r.2.1).Fibers).map (ai .o))])),(1000000001,.var (.lst .o 10 (r.2.2.1.map (aj .o)))),(1000000002,.var (.sl 470000128 0 r.2.2.2.1.length)),(1000000004,.var (.i r.2.2.2.2))]):=by
 refine aZ (lr:=[470000128,1000000000,1000000001,1000000002,1000000004]) bd Ww rfl rfl ?_;unfold Vp at h;simp only[ZC,Rf,bJ];obtain⟨k,l,h⟩:=ae h;refine ZF trivial ?_;refine ZUG trivial (Gf _ _ _ l) ?_;obtain⟨m,p,h⟩:=ae h;try refine ZF trivial ?_
 refine bo (o:=m) (bu lC (aC (w_af d a g c j k) p ?_)) (fun s hv=>?_) (fun t hv e τ hne hq=>?_)
 ·exact ZK (ZA @Ki.eq_1 @mo.eq_1)
 ·subst hv;simp only[] at h;simp only[ZC,mo,An];cases h;exact ZL trivial @bJ.eq_1
 ·subst hv;simp only[] at h;obtain⟨rfl,q⟩:=hq;cases h;exact q
def Hw(d:List Int)(b:ah)(g:List af)(c:List Int)(j:Int)(a:List Int)(v:Int):St:=⟨[(0,.lst .m 1 (d.map AV.i)),(2,.pt 1000000001 0 0),(3,.pt 1000000002 0 0),(4,.pt 1000000004 0 0),(12,.sl 12 0 a.length),(13,.i (a.length:Int)),(14,.i v)],[(12,.arr 1 (a.map AV.i)),(470000128,.arr 1 (c.map AV.i)),(1000000000,.var (.agg [.lst .o 1 (((b).Nodes).map AV.z),.lst .o 4 (((b).Fibers).map (ai .o))])),(1000000001,.var (.lst .o 10 (g.map (aj .o)))),(1000000002,.var (.sl 470000128 0 c.length)),(1000000004,.var (.i j))]⟩
theorem w_cb(j:List Int)(a:ah)(d:List af)(g:List Int)(k:Int)(c:List Int)(l:Int)(o:Int⊕(Unit⊕(Bool×ah×List af×List Int×Int)))(h:BH j a d c l=some o):AWP (OkS Tryz.prog) rQ (qL [0,2,3,4,12,13,14] [12,470000128,1000000000,1000000001,1000000002,1000000004] (Hw j a d g k c) (qS (qX 0 [] [470000128,1000000000,1000000001,1000000002,1000000004] (mo a d g k)) (qM bJ [470000128,1000000000,1000000001,1000000002,1000000004] (fun(r:Bool×ah×List af×List Int×Int)=>.b r.1) (fun(r:Bool×ah×List af×List Int×Int)=>[(470000128,.arr 1 (r.2.2.2.1.map AV.i)),(1000000000,.var (.agg [.lst .o 1 (((r.2.1).Nodes).map AV.z),.lst .o 4 (((r.2.1).Fibers).map (ai .o))])),(1000000001,.var (.lst .o 10 (r.2.2.1.map (aj .o)))),(1000000002,.var (.sl 470000128 0 r.2.2.2.1.length)),(1000000004,.var (.i r.2.2.2.2))]))) o) (Hw j a d g k c l):=by
 have e:=ZA @Hw.eq_1 @mo.eq_1;unfold BH at h;simp only[ZC,Hw,rQ];obtain⟨p,h⟩|⟨p,h⟩:=aq h
 ·obtain⟨d1,u,h⟩:=ae h;obtain⟨g1,w,h⟩:=ae h;obtain⟨x,y,h⟩:=ae h;have f:=ZA p (ZA (aI u) w);try refine ZF f ?_
  refine aw (sh:=(fun v=>⟨[(0,.lst .m 1 (j.map AV.i)),(2,.pt 1000000001 0 0),(3,.pt 1000000002 0 0),(4,.pt 1000000004 0 0),(7,.i l),(12,.sl 12 0 c.length),(13,.i (c.length:Int)),(14,.i l),(28,.b v)],[(12,.arr 1 (c.map AV.i)),(470000128,.arr 1 (g.map AV.i)),(1000000000,.var (.agg [.lst .o 1 (((a).Nodes).map AV.z),.lst .o 4 (((a).Fibers).map (ai .o))])),(1000000001,.var (.lst .o 10 (d.map (aj .o)))),(1000000002,.var (.sl 470000128 0 g.length)),(1000000004,.var (.i k))]⟩)) (s:=x) ?_ ?_
  ·replace h:=y;obtain⟨q,h⟩|⟨q,h⟩:=aq h
   ·obtain⟨i1,a1,h⟩:=ae h;cases h;exact ZL (ZA f (ZA q (aM a1))) trivial
   ·cases h;exact ZL (ZA f q) trivial
  ·simp only[ZC,zI];obtain⟨t,h⟩|⟨t,h⟩:=aq h
   ·obtain⟨j1,b1,h⟩:=ae h;have f:=ZA f t;refine ZF f ?_;refine ZUG f (w_dp _ b1) ?_;obtain⟨k1,c1,h⟩:=ae h;cases h;exact ZL (ZA f (aM c1)) @bJ.eq_1
   ·cases h;exact ZL (ZA f t) e
 ·cases h;exact ZL p e
theorem w_fh(d:List Int)(a:ah)(g:List af)(c:List Int)(j:Int){r:Bool×ah×List af×List Int×Int}(h:Kp d a g c j=some r):OkM Tryz.prog 79 [.lst .m 1 (d.map AV.i),.pt 1000000000 0 0,.pt 1000000001 0 0,.pt 1000000002 0 0,.pt 1000000004 0 0] [(1000000000,.var (.agg [.lst .o 1 (((a).Nodes).map AV.z),.lst .o 4 (((a).Fibers).map (ai .o))])),(1000000001,.var (.lst .o 10 (g.map (aj .o)))),(1000000002,.var (.sl 1000000003 0 c.length)),(1000000003,.arr 1 (c.map AV.i)),(1000000004,.var (.i j))] (.b r.1) ([(470000128,.arr 1 (r.2.2.2.1.map AV.i)),(1000000000,.var (.agg [.lst .o 1 (((r.2.1).Nodes).map AV.z),.lst .o 4 (((r.2.1).Fibers).map (ai .o))])),(1000000001,.var (.lst .o 10 (r.2.2.1.map (aj .o)))),(1000000002,.var (.sl 470000128 0 r.2.2.2.1.length)),(1000000004,.var (.i r.2.2.2.2))]):=by
 refine aZ (lr:=[470000128,1000000000,1000000001,1000000002,1000000004]) bd VV rfl rfl ?_;unfold Kp at h;simp only[ZC,RM,bJ];obtain⟨k,l,h⟩:=ae h;refine ZF trivial ?_;refine ZUG trivial (Gf _ _ _ l) ?_;obtain⟨p,q,h⟩:=ae h;try refine ZF trivial ?_
 refine bo (o:=p) (bu lC (aC (w_cb d a g c j k) q ?_)) (fun t hv=>?_) (fun u hv e τ hne hq=>?_)
 ·exact ZK (ZA @Hw.eq_1 @mo.eq_1)
 ·subst hv;simp only[] at h;simp only[ZC,mo,zg];cases h;exact ZL trivial @bJ.eq_1
 ·subst hv;simp only[] at h;obtain⟨rfl,s⟩:=hq;cases h;exact s
def S_x(a:Int)(b:Int)(c:List Int)(v:Int×ah×List af×List Int×Int):St:=⟨[(1,.i a),(2,.i b),(3,.lst .m 1 (c.map AV.i)),(4,.fn 79 [.pt 1000000001 0 0,.pt 1000000002 0 0,.pt 1000000003 0 0,.pt 1000000005 0 0]),(11,.i v.1)],[(470000192,.arr 1 (v.2.2.2.1.map AV.i)),(1000000001,.var (.agg [.lst .o 1 (((v.2.1).Nodes).map AV.z),.lst .o 4 (((v.2.1).Fibers).map (ai .o))])),(1000000002,.var (.lst .o 10 (v.2.2.1.map (aj .o)))),(1000000003,.var (.sl 470000192 0 v.2.2.2.1.length)),(1000000005,.var (.i v.2.2.2.2))]⟩
def Oi(v:ah×List af×List Int×Int):St:=⟨[],[(470000192,.arr 1 (v.2.2.1.map AV.i)),(1000000001,.var (.agg [.lst .o 1 (((v.1).Nodes).map AV.z),.lst .o 4 (((v.1).Fibers).map (ai .o))])),(1000000002,.var (.lst .o 10 (v.2.1.map (aj .o)))),(1000000003,.var (.sl 470000192 0 v.2.2.1.length)),(1000000005,.var (.i v.2.2.2))]⟩
theorem w_x(m:Int)(c:Int)(d:Int)(a:List Int)(j:ah)(p:List af)(k:List Int)(q:Int)(a1:Int->Int->Int->List Int->ah->List af->List Int->Int->Option (Bool×ah×List af×List Int×Int))(g1:∀(m:Int)(c:Int)(d:Int)(a:List Int)(j:ah)(p:List af)(k:List Int)(q:Int){r:Bool×ah×List af×List Int×Int},a1 m c d a j p k q=some r->OkM Tryz.prog 77 [.i m,.i c,.i d,.sl 1000000000 0 a.length,.fn 79 [.pt 1000000001 0 0,.pt 1000000002 0 0,.pt 1000000003 0 0,.pt 1000000005 0 0]] [(1000000000,.arr 1 (a.map AV.i)),(1000000001,.var (.agg [.lst .o 1 (((j).Nodes).map AV.z),.lst .o 4 (((j).Fibers).map (ai .o))])),(1000000002,.var (.lst .o 10 (p.map (aj .o)))),(1000000003,.var (.sl 1000000004 0 k.length)),(1000000004,.arr 1 (k.map AV.i)),(1000000005,.var (.i q))] (.b r.1) ([(470000192,.arr 1 (r.2.2.2.1.map AV.i)),(1000000001,.var (.agg [.lst .o 1 (((r.2.1).Nodes).map AV.z),.lst .o 4 (((r.2.1).Fibers).map (ai .o))])),(1000000002,.var (.lst .o 10 (r.2.2.1.map (aj .o)))),(1000000003,.var (.sl 470000192 0 r.2.2.2.1.length)),(1000000005,.var (.i r.2.2.2.2))]))(s:Int×ah×List af×List Int×Int)(o:(Int×ah×List af×List Int×Int)⊕((ah×List af×List Int×Int)⊕(Bool×ah×List af×List Int×Int)))(h:M_x c d a a1 s=some o):AWP (OkS Tryz.prog) ry (qL [1,2,3,4,11] [470000192,1000000001,1000000002,1000000003,1000000005] (S_x c d a) (qS (qX 0 [] [470000192,1000000001,1000000002,1000000003,1000000005] (Oi)) (qM iQ [470000192,1000000001,1000000002,1000000003,1000000005] (fun(r:Bool×ah×List af×List Int×Int)=>.b r.1) (fun(r:Bool×ah×List af×List Int×Int)=>[(470000192,.arr 1 (r.2.2.2.1.map AV.i)),(1000000001,.var (.agg [.lst .o 1 (((r.2.1).Nodes).map AV.z),.lst .o 4 (((r.2.1).Fibers).map (ai .o))])),(1000000002,.var (.lst .o 10 (r.2.2.1.map (aj .o)))),(1000000003,.var (.sl 470000192 0 r.2.2.2.1.length)),(1000000005,.var (.i r.2.2.2.2))]))) o) (S_x c d a s):=by
 have e:=ZA @S_x.eq_1 @Oi.eq_1;unfold M_x at h;simp only[ZC,S_x,ry];obtain⟨t,h⟩|⟨t,h⟩:=aq h
 ·have u:(0:Int)<=(a.length:Int):=Int.natCast_nonneg _;obtain⟨v,g,h⟩:=aO h;have i1:Row.arr 1 [(.i s.1:AV)]=Row.arr 1 (v.map AV.i):=by rw[<-g];rfl
  have w:v.length=1:=by rw[<-g];rfl
  obtain⟨m1,j1,h⟩:=ae h;have b1:=aI j1;obtain⟨c1,l,h⟩:=aO h;have k1:a.map AV.i++v.map AV.i=c1.map AV.i:=by rw[<-l,List.map_append]
  have d1:a.length+1=c1.length:=by simp[<-g,<-l]<;>omega
  rw[d1] at b1;have x:(0:Nat)<1:=by decide
  obtain⟨p1,l1,h⟩:=ae h;have f:=ZA t (ZA u (ZA i1 (ZA w (ZA b1 (ZA k1 (ZA d1 x))))));refine ZF f ?_;refine ZWG f (g1 _ _ _ _ _ _ _ _ l1) [470000192,1000000001,1000000002,1000000003,1000000005] [473900192] ?_;obtain⟨y,h⟩|⟨y,h⟩:=aq h
  ·cases h;exact ZL (ZA f y) (ZA @iQ.eq_1 (ZA g.symm (ZA l.symm (ZA u (ZA w x)))))
  ·cases h;exact ZL (ZA f y) (ZA e (ZA g.symm (ZA l.symm (ZA u (ZA w x)))))
 ·cases h;exact ZL t e
theorem We(q:Int->Int->Int->List Int->ah->List af->List Int->Int->Option (Bool×ah×List af×List Int×Int))(s:∀(g:Int)(j:Int)(k:Int)(a:List Int)(c:ah)(l:List af)(d:List Int)(m:Int){r:Bool×ah×List af×List Int×Int},q g j k a c l d m=some r->OkM Tryz.prog 77 [.i g,.i j,.i k,.sl 1000000000 0 a.length,.fn 79 [.pt 1000000001 0 0,.pt 1000000002 0 0,.pt 1000000003 0 0,.pt 1000000005 0 0]] [(1000000000,.arr 1 (a.map AV.i)),(1000000001,.var (.agg [.lst .o 1 (((c).Nodes).map AV.z),.lst .o 4 (((c).Fibers).map (ai .o))])),(1000000002,.var (.lst .o 10 (l.map (aj .o)))),(1000000003,.var (.sl 1000000004 0 d.length)),(1000000004,.arr 1 (d.map AV.i)),(1000000005,.var (.i m))] (.b r.1) ([(470000192,.arr 1 (r.2.2.2.1.map AV.i)),(1000000001,.var (.agg [.lst .o 1 (((r.2.1).Nodes).map AV.z),.lst .o 4 (((r.2.1).Fibers).map (ai .o))])),(1000000002,.var (.lst .o 10 (r.2.2.1.map (aj .o)))),(1000000003,.var (.sl 470000192 0 r.2.2.2.1.length)),(1000000005,.var (.i r.2.2.2.2))]))(g:Int)(j:Int)(k:Int)(a:List Int)(c:ah)(l:List af)(d:List Int)(m:Int){r:Bool×ah×List af×List Int×Int}(h:wo q g j k a c l d m=some r):OkM Tryz.prog 77 [.i g,.i j,.i k,.sl 1000000000 0 a.length,.fn 79 [.pt 1000000001 0 0,.pt 1000000002 0 0,.pt 1000000003 0 0,.pt 1000000005 0 0]] [(1000000000,.arr 1 (a.map AV.i)),(1000000001,.var (.agg [.lst .o 1 (((c).Nodes).map AV.z),.lst .o 4 (((c).Fibers).map (ai .o))])),(1000000002,.var (.lst .o 10 (l.map (aj .o)))),(1000000003,.var (.sl 1000000004 0 d.length)),(1000000004,.arr 1 (d.map AV.i)),(1000000005,.var (.i m))] (.b r.1) ([(470000192,.arr 1 (r.2.2.2.1.map AV.i)),(1000000001,.var (.agg [.lst .o 1 (((r.2.1).Nodes).map AV.z),.lst .o 4 (((r.2.1).Fibers).map (ai .o))])),(1000000002,.var (.lst .o 10 (r.2.2.1.map (aj .o)))),(1000000003,.var (.sl 470000192 0 r.2.2.2.1.length)),(1000000005,.var (.i r.2.2.2.2))]):=by
 refine aZ (lr:=[470000192,1000000001,1000000002,1000000003,1000000005]) bd Wt rfl rfl ?_;unfold wo at h;simp only[ZC,Sd,iQ];obtain⟨p,h⟩|⟨p,h⟩:=aq h
 ·obtain⟨x,t,h⟩:=ae h;refine ZF p ?_;refine ZWG p (w_fh _ _ _ _ _ t) [470000128,1000000000,1000000001,1000000002,1000000004] [471700128] ?_;cases h;exact ZL p @iQ.eq_1
 ·obtain⟨u,v,h⟩:=ae h;try refine ZF p ?_
  refine bo (o:=u) (bu lC (aC (w_x g j k a c l d m q s) v ?_)) (fun y hv=>?_) (fun a1 hv e τ hne hq=>?_)
  ·exact ZK (ZA @S_x.eq_1 @Oi.eq_1)
  ·subst hv;simp only[] at h;simp only[ZC,Oi,yV];cases h;exact ZL p @iQ.eq_1
  ·subst hv;simp only[] at h;obtain⟨rfl,w⟩:=hq;cases h;exact w
theorem w_dg:∀(n:Nat)(g:Int)(j:Int)(k:Int)(a:List Int)(c:ah)(l:List af)(d:List Int)(m:Int){r:Bool×ah×List af×List Int×Int}(_:Bj n g j k a c l d m=some r),OkM Tryz.prog 77 [.i g,.i j,.i k,.sl 1000000000 0 a.length,.fn 79 [.pt 1000000001 0 0,.pt 1000000002 0 0,.pt 1000000003 0 0,.pt 1000000005 0 0]] [(1000000000,.arr 1 (a.map AV.i)),(1000000001,.var (.agg [.lst .o 1 (((c).Nodes).map AV.z),.lst .o 4 (((c).Fibers).map (ai .o))])),(1000000002,.var (.lst .o 10 (l.map (aj .o)))),(1000000003,.var (.sl 1000000004 0 d.length)),(1000000004,.arr 1 (d.map AV.i)),(1000000005,.var (.i m))] ((fun(r:Bool×ah×List af×List Int×Int)=>.b r.1) r) ((fun(r:Bool×ah×List af×List Int×Int)=>[(470000192,.arr 1 (r.2.2.2.1.map AV.i)),(1000000001,.var (.agg [.lst .o 1 (((r.2.1).Nodes).map AV.z),.lst .o 4 (((r.2.1).Fibers).map (ai .o))])),(1000000002,.var (.lst .o 10 (r.2.2.1.map (aj .o)))),(1000000003,.var (.sl 470000192 0 r.2.2.2.1.length)),(1000000005,.var (.i r.2.2.2.2))]) r)
 |0,g,j,k,a,c,l,d,m,_,h=>by cases h
 |n+1,g,j,k,a,c,l,d,m,_,h=>We (Bj n) (w_dg n) g j k a c l d m h
def Fi(a:Int)(b:Int)(c:List Int)(v:Int×ah×List af×List Int×Int):St:=⟨[(1,.i a),(2,.i b),(3,.lst .u 1 (c.map AV.i)),(4,.fn 79 [.pt 1000000000 0 0,.pt 1000000001 0 0,.pt 1000000002 0 0,.pt 1000000004 0 0]),(11,.i v.1)],[(470000128,.arr 1 (v.2.2.2.1.map AV.i)),(1000000000,.var (.agg [.lst .o 1 (((v.2.1).Nodes).map AV.z),.lst .o 4 (((v.2.1).Fibers).map (ai .o))])),(1000000001,.var (.lst .o 10 (v.2.2.1.map (aj .o)))),(1000000002,.var (.sl 470000128 0 v.2.2.2.1.length)),(1000000004,.var (.i v.2.2.2.2))]⟩
def yO(v:ah×List af×List Int×Int):St:=⟨[],[(470000128,.arr 1 (v.2.2.1.map AV.i)),(1000000000,.var (.agg [.lst .o 1 (((v.1).Nodes).map AV.z),.lst .o 4 (((v.1).Fibers).map (ai .o))])),(1000000001,.var (.lst .o 10 (v.2.1.map (aj .o)))),(1000000002,.var (.sl 470000128 0 v.2.2.1.length)),(1000000004,.var (.i v.2.2.2))]⟩
theorem w_bk(g:Int)(j:Int)(a:List Int)(k:Int×ah×List af×List Int×Int)(o:(Int×ah×List af×List Int×Int)⊕((ah×List af×List Int×Int)⊕(Bool×ah×List af×List Int×Int)))(h:TC g j a k=some o):AWP (OkS Tryz.prog) rN (qL [1,2,3,4,11] [470000128,1000000000,1000000001,1000000002,1000000004] (Fi g j a) (qS (qX 0 [] [470000128,1000000000,1000000001,1000000002,1000000004] (yO)) (qM iQ [470000128,1000000000,1000000001,1000000002,1000000004] (fun(r:Bool×ah×List af×List Int×Int)=>.b r.1) (fun(r:Bool×ah×List af×List Int×Int)=>[(470000128,.arr 1 (r.2.2.2.1.map AV.i)),(1000000000,.var (.agg [.lst .o 1 (((r.2.1).Nodes).map AV.z),.lst .o 4 (((r.2.1).Fibers).map (ai .o))])),(1000000001,.var (.lst .o 10 (r.2.2.1.map (aj .o)))),(1000000002,.var (.sl 470000128 0 r.2.2.2.1.length)),(1000000004,.var (.i r.2.2.2.2))]))) o) (Fi g j a k):=by
 have e:=ZA @Fi.eq_1 @yO.eq_1;unfold TC at h;simp only[ZC,Fi,rN];obtain⟨l,h⟩|⟨l,h⟩:=aq h
 ·have m:(0:Int)<=(a.length:Int):=Int.natCast_nonneg _;obtain⟨p,c,h⟩:=aO h;have x:Row.arr 1 [(.i k.1:AV)]=Row.arr 1 (p.map AV.i):=by rw[<-c];rfl
  have q:p.length=1:=by rw[<-c];rfl
  obtain⟨c1,y,h⟩:=ae h;have u:=aI y;obtain⟨v,d,h⟩:=aO h;have a1:a.map AV.i++p.map AV.i=v.map AV.i:=by rw[<-d,List.map_append]
  have w:a.length+1=v.length:=by simp[<-c,<-d]<;>omega
  rw[w] at u;have s:(0:Nat)<1:=by decide
  obtain⟨d1,b1,h⟩:=ae h;have f:=ZA l (ZA m (ZA x (ZA q (ZA u (ZA a1 (ZA w s))))));refine ZF f ?_;refine ZWG f (w_dg N0 _ _ _ _ _ _ _ _ b1) [470000192,1000000001,1000000002,1000000003,1000000005] [473900192] ?_;obtain⟨t,h⟩|⟨t,h⟩:=aq h
  ·cases h;exact ZL (ZA f t) (ZA @iQ.eq_1 (ZA c.symm (ZA d.symm (ZA m (ZA q s)))))
  ·cases h;exact ZL (ZA f t) (ZA e (ZA c.symm (ZA d.symm (ZA m (ZA q s)))))
 ·cases h;exact ZL l e
theorem w_hi(l:Int)(c:Int)(d:Int)(g:List Int)(j:ah)(m:List af)(k:List Int)(p:Int){r:Bool×ah×List af×List Int×Int}(h:NW l c d g j m k p=some r):OkM Tryz.prog 77 [.i l,.i c,.i d,.lst .u 1 (g.map AV.i),.fn 79 [.pt 1000000000 0 0,.pt 1000000001 0 0,.pt 1000000002 0 0,.pt 1000000004 0 0]] [(1000000000,.var (.agg [.lst .o 1 (((j).Nodes).map AV.z),.lst .o 4 (((j).Fibers).map (ai .o))])),(1000000001,.var (.lst .o 10 (m.map (aj .o)))),(1000000002,.var (.sl 1000000003 0 k.length)),(1000000003,.arr 1 (k.map AV.i)),(1000000004,.var (.i p))] (.b r.1) ([(470000128,.arr 1 (r.2.2.2.1.map AV.i)),(1000000000,.var (.agg [.lst .o 1 (((r.2.1).Nodes).map AV.z),.lst .o 4 (((r.2.1).Fibers).map (ai .o))])),(1000000001,.var (.lst .o 10 (r.2.2.1.map (aj .o)))),(1000000002,.var (.sl 470000128 0 r.2.2.2.1.length)),(1000000004,.var (.i r.2.2.2.2))]):=by
 refine aZ (lr:=[470000128,1000000000,1000000001,1000000002,1000000004]) bd Wq rfl rfl ?_;unfold NW at h;simp only[ZC,RX,iQ];obtain⟨a,h⟩|⟨a,h⟩:=aq h
 ·obtain⟨w,q,h⟩:=ae h;refine ZF a ?_;refine ZWG a (w_hl _ _ _ _ _ q) [470000128,1000000000,1000000001,1000000002,1000000004] [471700128] ?_;cases h;exact ZL a @iQ.eq_1
 ·obtain⟨s,t,h⟩:=ae h;try refine ZF a ?_
  refine bo (o:=s) (bu lC (aC (w_bk c d g) t ?_)) (fun x hv=>?_) (fun y hv e τ hne hq=>?_)
  ·exact ZK (ZA @Fi.eq_1 @yO.eq_1)
  ·subst hv;simp only[] at h;simp only[ZC,yO,Al];cases h;exact ZL a @iQ.eq_1
  ·subst hv;simp only[] at h;obtain⟨rfl,v⟩:=hq;cases h;exact v
theorem w_gu(c:ah)(g:List af)(j:Int){r:List Int×Int×Bool×Bool}(h:JS c g j=some r):Ok Tryz.prog 15 [.agg [.lst .o 1 (c.Nodes.map AV.z),.lst .o 4 (c.Fibers.map (ai .o))],.lst .o 10 (g.map (aj .o)),.i j] (.tup [.lst .u 1 (r.1.map AV.i),.i r.2.1,.b r.2.2.1,.b r.2.2.2]):=by
 refine aA bd m15 rfl ?_;unfold JS at h;simp only[ZC,A15,V15,aJ];obtain⟨k,l,h⟩:=ae h;try refine ZF trivial ?_
 refine aw (sh:=(fun v=>⟨[(2,.i j),(3,.pt 3 0 0),(4,.pt 4 0 0),(21,.b v)],[(3,.var (.agg [.lst .o 1 (c.Nodes.map AV.z),.lst .o 4 (c.Fibers.map (ai .o))])),(4,.var (.lst .o 10 (g.map (aj .o))))]⟩)) (s:=k) ?_ ?_
 ·replace h:=l;obtain⟨w,m,h⟩:=ae h;refine ZF trivial ?_;refine ZSG trivial (w_dx _ _ m) ?_;obtain⟨d,h⟩|⟨d,h⟩:=aq h
  ·cases h;exact ZL d trivial
  ·obtain⟨x,p,h⟩:=ae h;refine ZF d ?_;refine ZSG d (w_h _ _ _ p) ?_;cases h;exact ZL d trivial
 ·simp only[ZC,SC];obtain⟨a,h⟩|⟨a,h⟩:=aq h
  ·cases h;exact ZL a @V15.eq_1
  ·obtain⟨y,q,h⟩:=ae h;refine ZF a ?_;refine ZUG a (Ix _ q) ?_;obtain⟨a1,t,h⟩:=ae h;refine ZF a ?_;refine ZWG a (w_hi _ _ _ _ _ _ _ _ t) [470000128,1000000000,1000000001,1000000002,1000000004] [472900128] ?_;cases h;exact ZL a @V15.eq_1
theorem w_fp(c:ah)(d:List af)(g:List Int){r:List Int×Bool}(h:Jy c d g=some r):Ok Tryz.prog 16 [.agg [.lst .o 1 (c.Nodes.map AV.z),.lst .o 4 (c.Fibers.map (ai .o))],.lst .o 10 (d.map (aj .o)),.lst .o 1 (g.map AV.i)] (.tup [.lst .u 1 (r.1.map AV.i),.b r.2]):=by
 refine aA bd m16 rfl ?_;unfold Jy at h;simp only[ZC,A16,fY,aJ];obtain⟨l,j,h⟩:=ae h;refine ZF trivial ?_;refine ZSG trivial (Vm _ _ _ j) ?_;obtain⟨a,h⟩|⟨a,h⟩:=aq h
 ·cases h;exact ZL a @fY.eq_1
 ·obtain⟨m,k,h⟩:=ae h;refine ZF a ?_;refine ZUG a (Gf _ _ _ k) ?_;cases h;exact ZL a @fY.eq_1
def JI(b:List af)(a:List Int)(v:Int×List Int):St:=⟨[(1,.lst .o 10 (b.map (aj .o))),(8,.sl 8 0 v.2.length),(20,.sl 20 0 a.length),(21,.i (a.length:Int)),(22,.i v.1)],[(8,.arr 1 (v.2.map AV.i)),(20,.arr 1 (a.map AV.i))]⟩
theorem w_cr(d:List af)(g:List Int)(a:Int×List Int)(o:(Int×List Int)⊕(List Int))(h:CO d g a=some o):AWP (OkS Tryz.prog) Jm (qL [1,8,20,21,22] [8,20] (JI d g) (qX 0 [8] [8] (mR)) o) (JI d g a):=by
 have e:=ZA @JI.eq_1 @mR.eq_1;unfold CO at h;simp only[ZC,JI,Jm];obtain⟨b,h⟩|⟨b,h⟩:=aq h
 ·obtain⟨a1,m,h⟩:=ae h;obtain⟨b1,p,h⟩:=ae h;obtain⟨j,h⟩|⟨j,h⟩:=aq h
  ·obtain⟨v,w,h⟩:=ae h;obtain⟨k,c,h⟩:=aO h;have x:Row.arr 1 [(.i v.Id:AV)]=Row.arr 1 (k.map AV.i):=by rw[<-c];rfl
   have q:k.length=1:=by rw[<-c];rfl
   obtain⟨c1,y,h⟩:=ae h;have s:=aI y;obtain⟨t,l,h⟩:=aO h;have z:a.2.map AV.i++k.map AV.i=t.map AV.i:=by rw[<-l,List.map_append]
   have u:a.2.length+1=t.length:=by simp[<-c,<-l]<;>omega
   rw[u] at s;cases h;exact ZL (ZA b (ZA (aI m) (ZA p (ZA j (ZA (aM w) (ZA x (ZA q (ZA s (ZA z u))))))))) (ZA e (ZA c.symm (ZA l.symm q)))
  ·cases h;exact ZL (ZA b (ZA (aI m) (ZA p j))) e
 ·cases h;exact ZL b e
theorem w_gv(c:ah)(d:List af)(g:List Int){r:List Int×Bool}(h:Iq c d g=some r):Ok Tryz.prog 17 [.agg [.lst .o 1 (c.Nodes.map AV.z),.lst .o 4 (c.Fibers.map (ai .o))],.lst .o 10 (d.map (aj .o)),.lst .o 1 (g.map AV.i)] (.tup [.lst .u 1 (r.1.map AV.i),.b r.2]):=by
 refine aA bd m17 rfl ?_;unfold Iq at h;simp only[ZC,A17,fY,aJ];obtain⟨p,j,h⟩:=ae h;refine ZF trivial ?_;refine ZSG trivial (Vm _ _ _ j) ?_;obtain⟨a,h⟩|⟨a,h⟩:=aq h
 ·cases h;exact ZL a @fY.eq_1
 ·obtain⟨k,l,h⟩:=ae h;refine ZF a ?_;refine ZUG a (Gf _ _ _ l) ?_;obtain⟨q,m,h⟩:=ae h;try refine ZF a ?_
  refine aw (aY (aC (w_cr d k) m ?_)) ?_
  ·exact ZK (ZA @JI.eq_1 @mR.eq_1)
  ·simp only[ZC,mR,RZ];cases h;exact ZL a @fY.eq_1
theorem w_ff(c:ah){r:List (List Int)×Bool}(h:Ez c=some r):Ok Tryz.prog 18 [.agg [.lst .o 1 (c.Nodes.map AV.z),.lst .o 4 (c.Fibers.map (ai .o))]] (.tup [.lst .u 1 (r.1.map (bI .u)),.b r.2]):=by
 refine aA bd m18 rfl ?_;unfold Ez at h;simp only[ZC,A18,V18,aJ];obtain⟨i,d,h⟩:=ae h;refine ZF trivial ?_;refine ZSG trivial (w_ej _ d) ?_;obtain⟨a,h⟩|⟨a,h⟩:=aq h
 ·cases h;exact ZL a @V18.eq_1
 ·obtain⟨j,g,h⟩:=ae h;refine ZF a ?_;refine ZUG a (Ix _ g) ?_;cases h;exact ZL a @V18.eq_1
def IE(a:Int)(v:Int×Int):St:=⟨[(0,.i a),(3,.i v.1),(4,.i v.2)],[]⟩
def zh(v:Int):St:=⟨[(3,.i v)],[]⟩
theorem w_aj(a:Int)(c:Int×Int)(o:(Int×Int)⊕Int)(h:DG a c=some o):AWP (OkS Tryz.prog) HJ (qL [0,3,4] [] (IE a) (qX 0 [3] [] (zh)) o) (IE a c):=by
 have e:=ZA @IE.eq_1 @zh.eq_1;unfold DG at h;simp only[ZC,IE,HJ];obtain⟨b,h⟩|⟨b,h⟩:=aq h
 ·obtain⟨g,d,h⟩:=ae h;cases h;exact ZL (ZA b (aI d)) e
 ·cases h;exact ZL b e
theorem w_ep(a:Int){r:Int}(h:Dr a=some r):Ok Tryz.prog 19 [.i a] (.i r):=by
 refine aA bd m19 rfl ?_;unfold Dr at h;simp only[ZC,A19,V10,aJ];obtain⟨c,b,h⟩:=ae h;try refine ZF trivial ?_
 refine aw (aY (aC (w_aj a) b ?_)) ?_
 ·exact ZK (ZA @IE.eq_1 @zh.eq_1)
 ·simp only[ZC,zh,Sn];cases h;exact ZL trivial @V10.eq_1
def HG(a:List Int)(b:Int)(v:Int):St:=⟨[(0,.lst .o 1 (a.map AV.i)),(1,.i b),(5,.i v)],[]⟩
theorem w_bz(c:List Int)(d:Int)(i:Int)(o:Int⊕(Unit⊕Bool))(h:Dq c d i=some o):AWP (OkS Tryz.prog) GA (qL [0,1,5] [] (HG c d) (qS (qX 0 [] [] (bR)) (qR az (fun r=>.b r))) o) (HG c d i):=by
 have e:=ZA @HG.eq_1 @bR.eq_1;unfold Dq at h;simp only[ZC,HG,GA];obtain⟨a,h⟩|⟨a,h⟩:=aq h
 ·obtain⟨k,j,h⟩:=ae h;obtain⟨g,h⟩|⟨g,h⟩:=aq h
  ·cases h;exact ZL (ZA a (ZA (aM j) g)) @az.eq_1
  ·cases h;exact ZL (ZA a (ZA (aM j) g)) e
 ·cases h;exact ZL a e
theorem w_fd(a:List Int)(c:Int){r:Bool}(h:EF a c=some r):Ok Tryz.prog 20 [.lst .o 1 (a.map AV.i),.i c] (.b r):=by
 refine aA bd m20 rfl ?_;unfold EF at h;simp only[ZC,A20,az,aJ];obtain⟨d,g,h⟩:=ae h;try refine ZF trivial ?_
 refine bo (o:=d) (bu cJ (aC (w_bz a c) g ?_)) (fun k hv=>?_) (fun l hv e τ hne hq=>?_)
 ·exact ZK (ZA @HG.eq_1 @bR.eq_1)
 ·subst hv;simp only[] at h;simp only[ZC,bR,Rh];cases h;exact ZL trivial @az.eq_1
 ·subst hv;simp only[] at h;obtain⟨rfl,j⟩:=hq;cases h;exact j
def S_t(a:ah×Nat×Nat×Nat×Nat×List af×List Int)(b:List Int×Bool)(c:List Int×Bool)(d:List Int×Bool)(g:List (List Int)×Bool)(v:Int×List Int):St:=⟨[(4,.sl 4 a.2.1 a.2.2.1),(5,.sl 5 a.2.2.2.1 a.2.2.2.2.1),(6,.sl 6 0 b.1.length),(14,.sl 14 0 c.1.length),(16,.sl 16 0 d.1.length),(18,.i 0),(19,.i 0),(20,.sl 20 0 g.1.length),(22,.sl 22 0 v.2.length),(23,.i v.1)],[(4,.arr 10 (a.2.2.2.2.2.1.map (aj .m))),(5,.arr 1 (a.2.2.2.2.2.2.map AV.i)),(6,.arr 1 (b.1.map AV.i)),(14,.arr 1 (c.1.map AV.i)),(16,.arr 1 (d.1.map AV.i)),(20,.arr 1 (g.1.map (bI .u))),(22,.arr 1 (v.2.map AV.i))]⟩
def QV(a:ah×Nat×Nat×Nat×Nat×List af×List Int)(b:List Int×Bool)(c:List Int×Bool)(d:List Int×Bool)(v:List Int):St:=⟨[(4,.sl 4 a.2.1 a.2.2.1),(6,.sl 6 0 b.1.length),(14,.sl 14 0 c.1.length),(16,.sl 16 0 d.1.length),(18,.i 0),(19,.i 0),(22,.sl 22 0 v.length)],[(4,.arr 10 (a.2.2.2.2.2.1.map (aj .m))),(6,.arr 1 (b.1.map AV.i)),(14,.arr 1 (c.1.map AV.i)),(16,.arr 1 (d.1.map AV.i)),(22,.arr 1 (v.map AV.i))]⟩
theorem w_t(a:ah×Nat×Nat×Nat×Nat×List af×List Int)(c:List Int×Bool)(d:List Int×Bool)(g:List Int×Bool)(j:List (List Int)×Bool)(b:Int×List Int)(o:(Int×List Int)⊕(List Int))(h:M_t a j b=some o):AWP (OkS Tryz.prog) Tu (qL [4,5,6,14,16,18,19,20,22,23] [4,5,6,14,16,20,22] (S_t a c d g j) (qX 0 [4,6,14,16,18,19,22] [4,6,14,16,22] (QV a c d g)) o) (S_t a c d g j b):=by
 have e:=ZA @S_t.eq_1 @QV.eq_1;unfold M_t at h;simp only[ZC,S_t,Tu];obtain⟨k,h⟩|⟨k,h⟩:=aq h
 ·obtain⟨z,t,h⟩:=ae h;obtain⟨a1,u,h⟩:=ae h;obtain⟨b1,v,h⟩:=ae h;obtain⟨m,w,h⟩:=ae h;obtain⟨c1,x,h⟩:=ae h;have p:=aI x;obtain⟨q,l,h⟩:=aO h;have y:b.2.map AV.i++m.map AV.i=q.map AV.i:=by rw[<-l,List.map_append]
  have s:b.2.length+m.length=q.length:=by simp[<-l]<;>omega
  rw[s] at p;cases h;exact ZL (ZA k (ZA (aI t) (ZA u (ZA (aI v) (ZA w (ZA p (ZA y s))))))) (ZA e l.symm)
 ·cases h;exact ZL k e
def S_u(a:ah×Nat×Nat×Nat×Nat×List af×List Int)(b:List Int×Bool)(c:List Int×Bool)(d:List Int×Bool)(g:List Int)(v:Int×Int×Int):St:=⟨[(4,.sl 4 a.2.1 a.2.2.1),(6,.sl 6 0 b.1.length),(14,.sl 14 0 c.1.length),(16,.sl 16 0 d.1.length),(18,.i v.1),(19,.i v.2.1),(22,.sl 22 0 g.length),(24,.i v.2.2)],[(4,.arr 10 (a.2.2.2.2.2.1.map (aj .m))),(6,.arr 1 (b.1.map AV.i)),(14,.arr 1 (c.1.map AV.i)),(16,.arr 1 (d.1.map AV.i)),(22,.arr 1 (g.map AV.i))]⟩
def QY(a:List Int×Bool)(b:List Int×Bool)(c:List Int)(v:Int×Int):St:=⟨[(6,.sl 6 0 a.1.length),(16,.sl 16 0 b.1.length),(18,.i v.1),(19,.i v.2),(22,.sl 22 0 c.length)],[(6,.arr 1 (a.1.map AV.i)),(16,.arr 1 (b.1.map AV.i)),(22,.arr 1 (c.map AV.i))]⟩
theorem w_u(c:ah×Nat×Nat×Nat×Nat×List af×List Int)(d:List Int×Bool)(g:List Int×Bool)(j:List Int×Bool)(k:List Int)(l:Int×Int×Int)(o:(Int×Int×Int)⊕(Int×Int))(h:M_u c g l=some o):AWP (OkS Tryz.prog) US (qL [4,6,14,16,18,19,22,24] [4,6,14,16,22] (S_u c d g j k) (qX 2 [6,16,18,19,22] [6,16,22] (QY d j k)) o) (S_u c d g j k l):=by
 have e:=ZA @S_u.eq_1 @QY.eq_1;unfold M_u at h;simp only[ZC,S_u,US];obtain⟨t,h⟩|⟨t,h⟩:=aq h
 ·obtain⟨v1,k1,h⟩:=ae h;obtain⟨a,l1,h⟩:=ae h;obtain⟨p,m1,h⟩:=ae h;have f:=ZA t (ZA (aI k1) l1);try refine ZF f ?_
  refine aw (sh:=(fun v=>⟨[(4,.sl 4 c.2.1 c.2.2.1),(6,.sl 6 0 d.1.length),(14,.sl 14 0 g.1.length),(16,.sl 16 0 j.1.length),(18,.i l.1),(19,.i v),(22,.sl 22 0 k.length),(24,.i l.2.2),(25,.pt 25 0 0)],[(4,.arr 10 (c.2.2.2.2.2.1.map (aj .m))),(6,.arr 1 (d.1.map AV.i)),(14,.arr 1 (g.1.map AV.i)),(16,.arr 1 (j.1.map AV.i)),(22,.arr 1 (k.map AV.i)),(25,.var (.agg [.i a.Id,.i a.Class,.i a.Work.Start,.lst .m 1 (a.Work.Fibers.map AV.i),.i a.WorkBlock.First,.i a.WorkBlock.Count,.i a.Spare.Start,.lst .m 1 (a.Spare.Fibers.map AV.i),.i a.SpareBlock.First,.i a.SpareBlock.Count]))]⟩)) (s:=p) ?_ ?_
  ·replace h:=m1;obtain⟨w1,c1,h⟩:=ae h;obtain⟨x1,d1,h⟩:=ae h;obtain⟨u,h⟩|⟨u,h⟩:=aq h
   ·cases h;exact ZL (ZA f (ZA (aI c1) (ZA d1 u))) trivial
   ·cases h;exact ZL (ZA f (ZA (aI c1) (ZA d1 u))) trivial
  ·simp only[ZC,A3R5];obtain⟨g1,p1,h⟩:=ae h;try refine ZF f ?_
   refine aw (sh:=(fun v=>⟨[(4,.sl 4 c.2.1 c.2.2.1),(6,.sl 6 0 d.1.length),(14,.sl 14 0 g.1.length),(16,.sl 16 0 j.1.length),(18,.i v),(19,.i p),(22,.sl 22 0 k.length),(24,.i l.2.2),(25,.pt 25 0 0)],[(4,.arr 10 (c.2.2.2.2.2.1.map (aj .m))),(6,.arr 1 (d.1.map AV.i)),(14,.arr 1 (g.1.map AV.i)),(16,.arr 1 (j.1.map AV.i)),(22,.arr 1 (k.map AV.i)),(25,.var (.agg [.i a.Id,.i a.Class,.i a.Work.Start,.lst .m 1 (a.Work.Fibers.map AV.i),.i a.WorkBlock.First,.i a.WorkBlock.Count,.i a.Spare.Start,.lst .m 1 (a.Spare.Fibers.map AV.i),.i a.SpareBlock.First,.i a.SpareBlock.Count]))]⟩)) (s:=g1) ?_ ?_
   ·replace h:=p1;obtain⟨q1,s1,h⟩:=ae h;try refine ZF f ?_
    refine aw (sh:=(fun v=>⟨[(4,.sl 4 c.2.1 c.2.2.1),(6,.sl 6 0 d.1.length),(14,.sl 14 0 g.1.length),(16,.sl 16 0 j.1.length),(18,.i l.1),(19,.i p),(22,.sl 22 0 k.length),(24,.i l.2.2),(25,.pt 25 0 0),(155,.b v)],[(4,.arr 10 (c.2.2.2.2.2.1.map (aj .m))),(6,.arr 1 (d.1.map AV.i)),(14,.arr 1 (g.1.map AV.i)),(16,.arr 1 (j.1.map AV.i)),(22,.arr 1 (k.map AV.i)),(25,.var (.agg [.i a.Id,.i a.Class,.i a.Work.Start,.lst .m 1 (a.Work.Fibers.map AV.i),.i a.WorkBlock.First,.i a.WorkBlock.Count,.i a.Spare.Start,.lst .m 1 (a.Spare.Fibers.map AV.i),.i a.SpareBlock.First,.i a.SpareBlock.Count]))]⟩)) (s:=q1) ?_ ?_
    ·replace h:=s1;obtain⟨y1,i1,h⟩:=ae h;obtain⟨z1,j1,h⟩:=ae h;obtain⟨w,h⟩|⟨w,h⟩:=aq h
     ·cases h;exact ZL (ZA f (ZA (aI i1) (ZA j1 w))) trivial
     ·cases h;exact ZL (ZA f (ZA (aI i1) (ZA j1 w))) trivial
    ·simp only[ZC,A3R6];obtain⟨x,h⟩|⟨x,h⟩:=aq h
     ·cases h;exact ZL (ZA f x) trivial
     ·cases h;exact ZL (ZA f x) trivial
   ·simp only[ZC,A3R7];obtain⟨t1,u1,h⟩:=ae h;try refine ZF f ?_
    refine aw (sh:=(fun v=>⟨[(4,.sl 4 c.2.1 c.2.2.1),(6,.sl 6 0 d.1.length),(14,.sl 14 0 g.1.length),(16,.sl 16 0 j.1.length),(18,.i g1),(19,.i p),(22,.sl 22 0 k.length),(24,.i l.2.2),(25,.pt 25 0 0),(182,.b v)],[(4,.arr 10 (c.2.2.2.2.2.1.map (aj .m))),(6,.arr 1 (d.1.map AV.i)),(14,.arr 1 (g.1.map AV.i)),(16,.arr 1 (j.1.map AV.i)),(22,.arr 1 (k.map AV.i)),(25,.var (.agg [.i a.Id,.i a.Class,.i a.Work.Start,.lst .m 1 (a.Work.Fibers.map AV.i),.i a.WorkBlock.First,.i a.WorkBlock.Count,.i a.Spare.Start,.lst .m 1 (a.Spare.Fibers.map AV.i),.i a.SpareBlock.First,.i a.SpareBlock.Count]))]⟩)) (s:=t1) ?_ ?_
    ·replace h:=u1;obtain⟨a2,y,h⟩:=ae h;obtain⟨b2,z,h⟩:=ae h;obtain⟨q,h⟩|⟨q,h⟩:=aq h
     ·cases h;exact ZL (ZA f (ZA (aI y) (ZA z q))) trivial
     ·obtain⟨a1,h⟩|⟨a1,h⟩:=aq h
      ·cases h;exact ZL (ZA f (ZA (aI y) (ZA z (ZA q a1)))) trivial
      ·cases h;exact ZL (ZA f (ZA (aI y) (ZA z (ZA q a1)))) trivial
    ·simp only[ZC,A3R8];obtain⟨b1,h⟩|⟨b1,h⟩:=aq h
     ·cases h;exact ZL (ZA f b1) e
     ·cases h;exact ZL (ZA f b1) e
 ·cases h;exact ZL t e
def S_v(a:List Int×Bool)(b:List Int×Bool)(c:List Int)(d:Int×Int)(v:Int×Int):St:=⟨[(6,.sl 6 0 a.1.length),(16,.sl 16 0 b.1.length),(18,.i d.1),(19,.i d.2),(22,.sl 22 0 c.length),(26,.i v.1),(27,.i v.2)],[(6,.arr 1 (a.1.map AV.i)),(16,.arr 1 (b.1.map AV.i)),(22,.arr 1 (c.map AV.i))]⟩
def Pq(a:List Int×Bool)(b:Int×Int)(v:Int):St:=⟨[(16,.sl 16 0 a.1.length),(18,.i b.1),(19,.i b.2),(26,.i v)],[(16,.arr 1 (a.1.map AV.i))]⟩
theorem w_v(a:List Int×Bool)(c:List Int×Bool)(d:List Int)(g:Int×Int)(j:Int×Int)(o:(Int×Int)⊕(Int⊕Bool))(h:M_v a d j=some o):AWP (OkS Tryz.prog) JQ (qL [6,16,18,19,22,26,27] [6,16,22] (S_v a c d g) (qS (qX 4 [16,18,19,26] [16] (Pq c g)) (qR V10 (fun r=>.b r))) o) (S_v a c d g j):=by
 have e:=ZA @S_v.eq_1 @Pq.eq_1;unfold M_v at h;simp only[ZC,S_v,JQ];obtain⟨k,h⟩|⟨k,h⟩:=aq h
 ·obtain⟨z,p,h⟩:=ae h;obtain⟨a1,q,h⟩:=ae h;obtain⟨t,u,h⟩:=ae h;have f:=ZA k (ZA (aI p) q);refine ZF f ?_;refine ZSG f (w_ep _ u) ?_;obtain⟨w,x,h⟩:=ae h;try refine ZF f ?_
  refine aw (sh:=(fun v=>⟨[(6,.sl 6 0 a.1.length),(16,.sl 16 0 c.1.length),(18,.i g.1),(19,.i g.2),(22,.sl 22 0 d.length),(26,.i (IntKind.wrap .i64 (j.1+t))),(27,.i j.2),(215,.b v)],[(6,.arr 1 (a.1.map AV.i)),(16,.arr 1 (c.1.map AV.i)),(22,.arr 1 (d.map AV.i))]⟩)) (s:=w) ?_ ?_
  ·replace h:=x;obtain⟨b1,y,h⟩:=ae h;refine ZF f ?_;refine ZSG f (w_fd _ _ y) ?_;obtain⟨l,h⟩|⟨l,h⟩:=aq h
   ·cases h;exact ZL (ZA f l) trivial
   ·cases h;exact ZL (ZA f l) trivial
  ·simp only[ZC,RQ];obtain⟨m,h⟩|⟨m,h⟩:=aq h
   ·cases h;exact ZL (ZA f m) @V10.eq_1
   ·cases h;exact ZL (ZA f m) e
 ·cases h;exact ZL k e
theorem w_ha(a1:List Int){r:Bool}(h:Pj a1=some r):Ok Tryz.prog 3 [.lst .o 1 (a1.map AV.u8)] (.b r):=by
 have e:=@V10.eq_1;refine aA bd m3 rfl ?_;unfold Pj at h;simp only[ZC,A3,V10,aJ];obtain⟨l2,c1,h⟩:=ae h;refine ZF trivial ?_;refine ZSG trivial (w_hb _ c1) ?_;obtain⟨g,h⟩|⟨g,h⟩:=aq h
 ·cases h;exact ZL g e
 ·obtain⟨a,d1,h⟩:=ae h;refine ZF g ?_;refine ZWG g (w_fc _ d1) [3,4] [3300003,3300004] ?_;obtain⟨g1,i1,h⟩:=aO h;have j1:sub (a.2.2.2.2.2.1.map (aj .m)) a.2.1 a.2.2.1=g1.map (aj .m):=by rw[bP,i1]
  obtain⟨k1,l1,h⟩:=aO h;have m1:sub (a.2.2.2.2.2.2.map AV.i) a.2.2.2.1 a.2.2.2.2.1=k1.map AV.i:=by rw[bP,l1]
  obtain⟨c,p1,h⟩:=ae h;have f:=ZA g (ZA j1 m1);refine ZF f ?_;refine ZUG f (w_gs _ _ _ p1) ?_;obtain⟨m2,q1,h⟩:=ae h;refine ZF f ?_;refine ZUG f (w_gt _ _ _ q1) ?_;obtain⟨s1,t1,h⟩:=ae h;try refine ZF f ?_
  refine aw (sh:=(fun v=>⟨[(3,.pt 3 0 0),(4,.sl 4 a.2.1 a.2.2.1),(5,.sl 5 a.2.2.2.1 a.2.2.2.2.1),(6,.sl 6 0 c.1.length),(7,.b c.2),(58,.b v)],[(3,.var (.agg [.lst .m 1 (((a.1).Nodes).map AV.z),.lst .m 4 (((a.1).Fibers).map (ai .m))])),(4,.arr 10 (a.2.2.2.2.2.1.map (aj .m))),(5,.arr 1 (a.2.2.2.2.2.2.map AV.i)),(6,.arr 1 (c.1.map AV.i))]⟩)) (s:=s1) ?_ ?_
  ·replace h:=t1;obtain⟨t,h⟩|⟨t,h⟩:=aq h
   ·cases h;exact ZL (ZA f t) trivial
   ·obtain⟨p2,u1,h⟩:=ae h;have f:=ZA f t;refine ZF f ?_;refine ZSG f (w_fe _ _ u1) ?_;cases h;exact ZL f trivial
  ·simp only[ZC,A3R1];obtain⟨l,h⟩|⟨l,h⟩:=aq h
   ·cases h;exact ZL (ZA f l) e
   ·obtain⟨u,h⟩|⟨u,h⟩:=aq h
    ·cases h;exact ZL (ZA f (ZA l u)) e
    ·obtain⟨q2,v1,h⟩:=ae h;have f:=ZA f (ZA l u);refine ZF f ?_;refine ZUG f (w_gu _ _ _ v1) ?_;obtain⟨p,w1,h⟩:=ae h;refine ZF f ?_;refine ZUG f (w_fp _ _ _ w1) ?_;obtain⟨j,x1,h⟩:=ae h;refine ZF f ?_;refine ZUG f (w_gv _ _ _ x1) ?_;obtain⟨y1,z1,h⟩:=ae h;try refine ZF f ?_
     refine aw (sh:=(fun v=>⟨[(3,.pt 3 0 0),(4,.sl 4 a.2.1 a.2.2.1),(5,.sl 5 a.2.2.2.1 a.2.2.2.2.1),(6,.sl 6 0 c.1.length),(14,.sl 14 0 p.1.length),(16,.sl 16 0 j.1.length),(105,.b v)],[(3,.var (.agg [.lst .m 1 (((a.1).Nodes).map AV.z),.lst .m 4 (((a.1).Fibers).map (ai .m))])),(4,.arr 10 (a.2.2.2.2.2.1.map (aj .m))),(5,.arr 1 (a.2.2.2.2.2.2.map AV.i)),(6,.arr 1 (c.1.map AV.i)),(14,.arr 1 (p.1.map AV.i)),(16,.arr 1 (j.1.map AV.i))]⟩)) (s:=y1) ?_ ?_
     ·replace h:=z1;obtain⟨d,h⟩|⟨d,h⟩:=aq h
      ·cases h;exact ZL (ZA f d) trivial
      ·obtain⟨k,h⟩|⟨k,h⟩:=aq h
       ·cases h;exact ZL (ZA f (ZA d k)) trivial
       ·obtain⟨q,h⟩|⟨q,h⟩:=aq h
        ·cases h;exact ZL (ZA f (ZA d (ZA k q))) trivial
        ·obtain⟨w,h⟩|⟨w,h⟩:=aq h
         ·cases h;exact ZL (ZA f (ZA d (ZA k (ZA q w)))) trivial
         ·cases h;exact ZL (ZA f (ZA d (ZA k (ZA q w)))) trivial
     ·simp only[ZC,A3R2];obtain⟨x,h⟩|⟨x,h⟩:=aq h
      ·cases h;exact ZL (ZA f x) e
      ·obtain⟨a2,b2,h⟩:=ae h;have f:=ZA f x;refine ZF f ?_;refine ZUG f (w_ff _ b2) ?_;obtain⟨b1,c2,h⟩:=ae h;try refine ZF f ?_
       refine aw (aY (aC (w_t a c p j a2) c2 ?_)) ?_
       ·exact ZK (ZA @S_t.eq_1 @QV.eq_1)
       ·simp only[ZC,QV,A3R4];obtain⟨d2,g2,h⟩:=ae h;try refine ZF f ?_
        refine aw (aY (aC (w_u a c p j b1) g2 ?_)) ?_
        ·exact ZK (ZA @S_u.eq_1 @QY.eq_1)
        ·simp only[ZC,QY,SA];obtain⟨i2,j2,h⟩:=ae h;try refine ZF f ?_
         refine bo (o:=i2) (bu cJ (aC (w_v c j b1 d2) j2 ?_)) (fun s2 hv=>?_) (fun t2 hv e τ hne hq=>?_)
         ·exact ZK (ZA @S_v.eq_1 @Pq.eq_1)
         ·subst hv;simp only[] at h;simp only[ZC,Pq,Re];obtain⟨y,h⟩|⟨y,h⟩:=aq h
          ·cases h;exact ZL (ZA f y) e
          ·cases h;exact ZL (ZA f y) e
         ·subst hv;simp only[] at h;obtain⟨rfl,k2⟩:=hq;cases h;exact k2
end Vs

