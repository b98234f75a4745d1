/-
  Part of the proof that the law FnRepair returns true at every input; no condition beside the row's own.
-/
import Derived.Test.YtfmhphgpijjejaaGreatBb
set_option linter.defProp false
set_option linter.unusedSimpArgs false
set_option linter.unusedVariables false
set_option maxHeartbeats 1000000
set_option maxRecDepth 8000
namespace Vs
open Go Go.Proofs
attribute [local irreducible] AWP dU eff sq fw callM
theorem w_go(q:aw){r:af×Nat×Nat×List ah×aw}(h:FR q=some r):OkM Tryz.prog 82 [.pt 1000000000 0 0] [(1000000000,.var (.agg [.lst .o 1 (((q).code).map AV.u8),.i ((q).atF),.sc (.int .u64 ((q).seed))]))] (.tup [.agg [.lst .m 1 (((r.1).Nodes).map AV.z),.lst .m 4 (((r.1).Fibers).map (ai .m))],.sl 3 r.2.1 r.2.2.1]) ([(3,.arr 10 (r.2.2.2.1.map (aj .m))),(1000000000,.var (.agg [.lst .o 1 (((r.2.2.2.2).code).map AV.u8),.i ((r.2.2.2.2).atF),.sc (.int .u64 ((r.2.2.2.2).seed))]))]):=by
 refine aY (lr:=[3,1000000000]) bb Wd rfl rfl ?_;unfold FR at h;simp only[ZC,Rp,kz];obtain⟨w,m1,h⟩:=ae h;refine ZF trivial ?_;refine ZWG trivial (w_gk _ m1) [3,1000000000] [1100003] ?_;obtain⟨l,h⟩|⟨l,h⟩:=aq h
 ·cases h;exact ZL l @kz.eq_1
 ·obtain⟨d1,p1,h⟩:=ae h;refine ZF l ?_;refine ZWG l (w_b _ _ p1) [1000000000] [] ?_;obtain⟨x2,q1,h⟩:=ae h;obtain⟨b,s1,h⟩:=ae h;obtain⟨a,t1,h⟩:=ae h;have f:=ZA l (ZA (aI q1) s1);try refine ZF f ?_
  refine ax (sh:=(fun v=>⟨[(2,.pt 2 0 0),(4,.pt 4 0 0),(5,.sl 5 v.1 v.2.1),(6,.i d1.1),(7,.pt 7 0 0)],[(2,.var (.agg [.lst .u 1 [],.lst .u 4 []])),(4,.var (.agg [.lst .m 1 (((v.2.2.1).Nodes).map AV.z),.lst .m 4 (((v.2.2.1).Fibers).map (ai .m))])),(5,.arr 10 (v.2.2.2.1.map (aj .m))),(7,.var (.agg [.i ((v.2.2.2.2.1).Id),.i ((v.2.2.2.2.1).Class),.i (((v.2.2.2.2.1).Work).Start),.lst .m 1 ((((v.2.2.2.2.1).Work).Fibers).map AV.i),.i (((v.2.2.2.2.1).WorkBlock).First),.i (((v.2.2.2.2.1).WorkBlock).Count),.i (((v.2.2.2.2.1).Spare).Start),.lst .m 1 ((((v.2.2.2.2.1).Spare).Fibers).map AV.i),.i (((v.2.2.2.2.1).SpareBlock).First),.i (((v.2.2.2.2.1).SpareBlock).Count)])),(1000000000,.var (.agg [.lst .o 1 (((v.2.2.2.2.2).code).map AV.u8),.i ((v.2.2.2.2.2).atF),.sc (.int .u64 ((v.2.2.2.2.2).seed))]))]⟩)) (s:=a) ?_ ?_
  ·replace h:=t1;obtain⟨y2,u1,h⟩:=ae h;refine ZF f ?_;refine ZWG f (w_b _ _ u1) [1000000000] [] ?_;obtain⟨c,h⟩|⟨c,h⟩:=aq h
   ·obtain⟨g1,x,h⟩:=aK h;have v1:Row.arr 1 [(.i 0:AV),(.i 999:AV),(.i 1000:AV),(.i 500:AV),(.i 1:AV)]=Row.arr 1 (g1.map AV.i):=by rw[<-x];rfl
    have i1:g1.length=5:=by rw[<-x];rfl
    obtain⟨z2,w1,h⟩:=ae h;have f:=ZA f (ZA c (ZA v1 i1));refine ZF f ?_;refine ZWG f (w_k _ _ w1) [1000000000,1000000001] [] ?_;cases h;exact ZL f (ZA x.symm i1)
   ·obtain⟨d,h⟩|⟨d,h⟩:=aq h
    ·obtain⟨a3,x1,h⟩:=ae h;have f:=ZA f (ZA c d);refine ZF f ?_;refine ZWG f (w_b _ _ x1) [1000000000] [] ?_;cases h;exact ZL f trivial
    ·obtain⟨g,h⟩|⟨g,h⟩:=aq h
     ·obtain⟨b3,y1,h⟩:=ae h;have f:=ZA f (ZA c (ZA d g));refine ZF f ?_;refine ZWG f (w_eg _ _ y1) [500000257,1000000000] [504500257] ?_;cases h;exact ZL f trivial
     ·obtain⟨j,h⟩|⟨j,h⟩:=aq h
      ·obtain⟨c3,z1,h⟩:=ae h;have f:=ZA f (ZA c (ZA d (ZA g j)));refine ZF f ?_;refine ZWG f (w_eh _ z1) [1000000000] [] ?_;cases h;exact ZL f trivial
      ·obtain⟨k,h⟩|⟨k,h⟩:=aq h
       ·obtain⟨d3,a2,h⟩:=ae h;have f:=ZA f (ZA c (ZA d (ZA g (ZA j k))));refine ZF f ?_;refine ZWG f (w_eg _ _ a2) [500000257,1000000000] [505600257] ?_;cases h;exact ZL f trivial
       ·obtain⟨p,h⟩|⟨p,h⟩:=aq h
        ·obtain⟨g3,b2,h⟩:=ae h;have f:=ZA f (ZA c (ZA d (ZA g (ZA j (ZA k p)))));refine ZF f ?_;refine ZWG f (w_eh _ b2) [1000000000] [] ?_;cases h;exact ZL f trivial
        ·obtain⟨t,h⟩|⟨t,h⟩:=aq h
         ·obtain⟨y,a1,h⟩:=aK h;have c2:Row.arr 10 [(.agg [.i b.Id,.i b.Class,.i b.Work.Start,.lst .m 1 (b.Work.Fibers.map AV.i),.i b.WorkBlock.First,.i b.WorkBlock.Count,.i b.Spare.Start,.lst .m 1 (b.Spare.Fibers.map AV.i),.i b.SpareBlock.First,.i b.SpareBlock.Count]:AV)]=Row.arr 10 (y.map (aj .m)):=by rw[<-a1];rfl
          have j1:y.length=1:=by rw[<-a1];rfl
          obtain⟨k1,d2,h⟩:=aK h;have g2:sub (w.2.2.2.1.map (aj .m)) w.2.1 w.2.2.1=k1.map (aj .m):=by rw[bD,d2]
          obtain⟨i3,i2,h⟩:=ae h;obtain⟨j2,k2,h⟩:=aK h;have l2:k1.map (aj .m)++y.map (aj .m)=j2.map (aj .m):=by rw[<-k2,List.map_append]
          cases h;exact ZL (ZA f (ZA c (ZA d (ZA g (ZA j (ZA k (ZA p (ZA t (ZA c2 (ZA j1 (ZA g2 (ZA (aI i2) l2)))))))))))) (ZA a1.symm j1)
         ·obtain⟨b1,h⟩|⟨b1,h⟩:=aq h
          ·obtain⟨c1,m2,h⟩:=ae h;have f:=ZA f (ZA c (ZA d (ZA g (ZA j (ZA k (ZA p (ZA t b1)))))));refine ZF f ?_;refine ZWG f (w_gn _ m2) [500000128,500000129,1000000000] [507200128,507200129] ?_;obtain⟨p2,q2,h⟩:=aK h;have s2:sub (c1.2.2.1.map AV.z) c1.1 c1.2.1=p2.map AV.z:=by rw[bD,q2]
           cases h;exact ZL (ZA f s2) trivial
          ·cases h;exact ZL (ZA f (ZA c (ZA d (ZA g (ZA j (ZA k (ZA p (ZA t b1)))))))) trivial
  ·simp only[ZC,yR];obtain⟨j3,t2,h⟩:=ae h;obtain⟨k3,u2,h⟩:=ae h;obtain⟨v2,l1,h⟩:=aK h;have w2:(a.2.2.2.1.map (aj .m)).set (a.1+(Int.toNat d1.1)) (.agg [.i ((a.2.2.2.2.1).Id),.i ((a.2.2.2.2.1).Class),.i (((a.2.2.2.2.1).Work).Start),.lst .m 1 ((((a.2.2.2.2.1).Work).Fibers).map AV.i),.i (((a.2.2.2.2.1).WorkBlock).First),.i (((a.2.2.2.2.1).WorkBlock).Count),.i (((a.2.2.2.2.1).Spare).Start),.lst .m 1 ((((a.2.2.2.2.1).Spare).Fibers).map AV.i),.i (((a.2.2.2.2.1).SpareBlock).First),.i (((a.2.2.2.2.1).SpareBlock).Count)])=v2.map (aj .m):=by rw[<-l1,List.map_set];rfl
   cases h;exact ZL (ZA f (ZA (aI t2) (ZA u2 w2))) (ZA @kz.eq_1 l1.symm)
def MW(a:Nat)(b:Nat)(c:List ah)(v:Int×List Int×aw):St:=⟨[(0,.pt 1000000000 0 0),(1,.sl 1000000001 a b),(5,.sl 5 0 v.2.1.length),(6,.i v.1)],[(5,.arr 1 (v.2.1.map AV.i)),(1000000000,.var (.agg [.lst .o 1 (((v.2.2).code).map AV.u8),.i ((v.2.2).atF),.sc (.int .u64 ((v.2.2).seed))])),(1000000001,.arr 10 (c.map (aj .m)))]⟩
def zl(a:List ah)(v:List Int×aw):St:=⟨[(0,.pt 1000000000 0 0),(5,.sl 5 0 v.1.length)],[(5,.arr 1 (v.1.map AV.i)),(1000000000,.var (.agg [.lst .o 1 (((v.2).code).map AV.u8),.i ((v.2).atF),.sc (.int .u64 ((v.2).seed))])),(1000000001,.arr 10 (a.map (aj .m)))]⟩
theorem w_bf(m:Nat)(d:Nat)(g:List ah)(a:Int×List Int×aw)(o:(Int×List Int×aw)⊕(List Int×aw))(h:JV d a=some o):AWP (OkS Tryz.prog) nT (qL [0,1,5,6] [5,1000000000,1000000001] (MW m d g) (qX 0 [0,5] [5,1000000000,1000000001] (zl g)) o) (MW m d g a):=by
 have e:=ZA @MW.eq_1 @zl.eq_1;unfold JV at h;simp only[ZC,MW,nT];obtain⟨j,h⟩|⟨j,h⟩:=aq h
 ·obtain⟨p,b,h⟩:=aK h;have w:Row.arr 1 [(.i 10:AV),(.i 10:AV),(.i 20:AV),(.i 40:AV),(.i 100:AV)]=Row.arr 1 (p.map AV.i):=by rw[<-b];rfl
  have q:p.length=5:=by rw[<-b];rfl
  obtain⟨x,y,h⟩:=ae h;have f:=ZA j (ZA w q);refine ZF f ?_;refine ZWG f (w_k _ _ y) [1000000000,1000000001] [] ?_;obtain⟨k,c,h⟩:=aK h;have z:Row.arr 1 [(.i x.1:AV)]=Row.arr 1 (k.map AV.i):=by rw[<-c];rfl
  have s:k.length=1:=by rw[<-c];rfl
  obtain⟨c1,a1,h⟩:=ae h;have t:=aI a1;obtain⟨u,l,h⟩:=aK h;have b1:a.2.1.map AV.i++k.map AV.i=u.map AV.i:=by rw[<-l,List.map_append]
  have v:a.2.1.length+1=u.length:=by simp[<-b,<-c,<-l]<;>omega
  rw[v] at t;cases h;exact ZL (ZA f (ZA z (ZA s (ZA t (ZA b1 v))))) (ZA e (ZA b.symm (ZA c.symm (ZA l.symm (ZA q s)))))
 ·cases h;exact ZL j e
theorem w_gp(g:Nat)(j:Nat)(b:aw)(k:List ah){r:List Int×aw×List ah}(h:KB g j b k=some r):OkM Tryz.prog 191 [.pt 1000000000 0 0,.sl 1000000001 g j] [(1000000000,.var (.agg [.lst .o 1 (((b).code).map AV.u8),.i ((b).atF),.sc (.int .u64 ((b).seed))])),(1000000001,.arr 10 (k.map (aj .m)))] (.sl 4 0 r.1.length) ([(4,.arr 1 (r.1.map AV.i)),(1000000000,.var (.agg [.lst .o 1 (((r.2.1).code).map AV.u8),.i ((r.2.1).atF),.sc (.int .u64 ((r.2.1).seed))])),(1000000001,.arr 10 (r.2.2.map (aj .m)))]):=by
 have e:=@ay.eq_1;refine aY (lr:=[4,1000000000,1000000001]) bb Vo rfl rfl ?_;unfold KB at h;simp only[ZC,En,ay];obtain⟨l,b1,h⟩:=ae h;try refine ZF trivial ?_
 refine ax (aX (aB (w_bf g j k) b1 ?_)) ?_
 ·exact ZK (ZA @MW.eq_1 @zl.eq_1)
 ·simp only[ZC,zl,vl];obtain⟨t1,c1,h⟩:=ae h;refine ZF trivial ?_;refine ZWG trivial (w_b _ _ c1) [1000000000] [] ?_;obtain⟨a,h⟩|⟨a,h⟩:=aq h
  ·obtain⟨p,c,h⟩:=aK h;have d1:Row.arr 1 [(.i 10:AV)]=Row.arr 1 (p.map AV.i):=by rw[<-c];rfl
   have u:p.length=1:=by rw[<-c];rfl
   obtain⟨u1,g1,h⟩:=ae h;have v:=aI g1;obtain⟨w,q,h⟩:=aK h;have i1:l.1.map AV.i++p.map AV.i=w.map AV.i:=by rw[<-q,List.map_append]
   have x:l.1.length+1=w.length:=by simp[<-c,<-q]<;>omega
   rw[x] at v;cases h;exact ZL (ZA a (ZA d1 (ZA u (ZA v (ZA i1 x))))) (ZA e (ZA c.symm (ZA q.symm u)))
  ·obtain⟨d,h⟩|⟨d,h⟩:=aq h
   ·obtain⟨s,h⟩|⟨s,h⟩:=aq h
    ·obtain⟨y,t,h⟩:=aK h;have j1:Row.arr 1 [(.i 0:AV),(.i 1000:AV),(.i 1001:AV)]=Row.arr 1 (y.map AV.i):=by rw[<-t];rfl
     have z:y.length=3:=by rw[<-t];rfl
     obtain⟨k1,l1,h⟩:=ae h;have f:=ZA a (ZA d (ZA s (ZA j1 z)));refine ZF f ?_;refine ZWG f (w_k _ _ l1) [1000000000,1000000001] [] ?_;obtain⟨v1,m1,h⟩:=ae h;obtain⟨w1,p1,h⟩:=ae h;obtain⟨q1,a1,h⟩:=aK h;have s1:(l.1.map AV.i).set (Int.toNat 0) (.i k1.1)=q1.map AV.i:=by rw[<-a1,List.map_set]
     cases h;exact ZL (ZA f (ZA (aI m1) (ZA p1 s1))) (ZA e (ZA t.symm (ZA a1.symm z)))
    ·cases h;exact ZL (ZA a (ZA d s)) e
   ·cases h;exact ZL (ZA a d) e
def S_l(b:af)(a:Int×List (List Int))(v:Int):St:=⟨[(1,.pt 1 0 0),(3,.sl 3 0 a.2.length),(4,.i a.1),(5,.i v)],[(1,.var (.agg [.lst .o 1 (b.Nodes.map AV.z),.lst .o 4 (b.Fibers.map (ai .o))])),(3,.arr 1 (a.2.map (bI .u)))]⟩
def Pa(a:af)(b:Int×List (List Int))(v:List (List Int)):St:=⟨[(1,.pt 1 0 0),(3,.sl 3 0 v.length),(4,.i b.1)],[(1,.var (.agg [.lst .o 1 (a.Nodes.map AV.z),.lst .o 4 (a.Fibers.map (ai .o))])),(3,.arr 1 (v.map (bI .u)))]⟩
theorem w_l(b:af)(a:Int×List (List Int))(l:Int)(o:Int⊕(List (List Int)))(h:M_l b a l=some o):AWP (OkS Tryz.prog) xd (qL [1,3,4,5] [1,3] (S_l b a) (qX 2 [1,3,4] [1,3] (Pa b a)) o) (S_l b a l):=by
 have e:=ZA @S_l.eq_1 @Pa.eq_1;unfold M_l at h;simp only[ZC,S_l,xd];obtain⟨c,h⟩|⟨c,h⟩:=aq h
 ·obtain⟨a1,m,h⟩:=ae h;obtain⟨g,h⟩|⟨g,h⟩:=aq h
  ·obtain⟨v,w,h⟩:=ae h;have f:=ZA c (ZA (aL m) g);refine ZF f ?_;refine ZUG f (w_cz _ _ w) ?_;obtain⟨j,d,h⟩:=aK h;have x:Row.arr 1 [(.lst .u 1 (v.map AV.i):AV)]=Row.arr 1 (j.map (bI .u)):=by rw[<-d];rfl
   have p:j.length=1:=by rw[<-d];rfl
   obtain⟨b1,y,h⟩:=ae h;have q:=aI y;obtain⟨s,k,h⟩:=aK h;have z:a.2.map (bI .u)++j.map (bI .u)=s.map (bI .u):=by rw[<-k,List.map_append]
   have t:a.2.length+1=s.length:=by simp[<-d,<-k]<;>omega
   rw[t] at q;cases h;exact ZL (ZA f (ZA x (ZA p (ZA q (ZA z t))))) (ZA e (ZA d.symm (ZA k.symm p)))
  ·cases h;exact ZL (ZA c (ZA (aL m) g)) e
 ·cases h;exact ZL c e
def S_e(a:af)(v:Int×List (List Int)):St:=⟨[(1,.pt 1 0 0),(3,.sl 3 0 v.2.length),(4,.i v.1)],[(1,.var (.agg [.lst .o 1 (a.Nodes.map AV.z),.lst .o 4 (a.Fibers.map (ai .o))])),(3,.arr 1 (v.2.map (bI .u)))]⟩
def uK(a:af)(v:List (List Int)):St:=⟨[(1,.pt 1 0 0),(3,.sl 3 0 v.length)],[(1,.var (.agg [.lst .o 1 (a.Nodes.map AV.z),.lst .o 4 (a.Fibers.map (ai .o))])),(3,.arr 1 (v.map (bI .u)))]⟩
theorem w_e(a:af)(b:Int×List (List Int))(o:(Int×List (List Int))⊕(List (List Int)))(h:M_e a b=some o):AWP (OkS Tryz.prog) wa (qL [1,3,4] [1,3] (S_e a) (qX 0 [1,3] [1,3] (uK a)) o) (S_e a b):=by
 have e:=ZA @S_e.eq_1 @uK.eq_1;unfold M_e at h;simp only[ZC,S_e,wa];obtain⟨c,h⟩|⟨c,h⟩:=aq h
 ·obtain⟨j,k,h⟩:=ae h;try refine ZF c ?_
  refine ax (sh:=(fun v=>⟨[(1,.pt 1 0 0),(3,.sl 3 0 v.length),(4,.i b.1)],[(1,.var (.agg [.lst .o 1 (a.Nodes.map AV.z),.lst .o 4 (a.Fibers.map (ai .o))])),(3,.arr 1 (v.map (bI .u)))]⟩)) (s:=j) ?_ ?_
  ·replace h:=k;obtain⟨l,d,h⟩:=ae h;try refine ZF c ?_
   first|refine de (aX (aB (w_l a b) d ?_)) (fun τ g=>?_)|refine dM (aB (w_l a b) d ?_) (fun τ g=>?_)
   ·exact ZK (ZA @S_l.eq_1 @Pa.eq_1)
   ·cases h;try refine ZF trivial ?_
    refine⟨rfl,Shp.sub g (by decide) (by decide) ?_⟩;exact ZK @Pa.eq_1
  ·simp only[ZC,LV];cases h;exact ZL c e
 ·cases h;exact ZL c e
def S_j(a:af)(v:Int×List (List Int)):St:=⟨[(1,.pt 1 0 0),(3,.sl 3 0 v.2.length),(6,.i v.1)],[(1,.var (.agg [.lst .o 1 (a.Nodes.map AV.z),.lst .o 4 (a.Fibers.map (ai .o))])),(3,.arr 1 (v.2.map (bI .u)))]⟩
def uP(v:List (List Int)):St:=⟨[(3,.sl 3 0 v.length)],[(3,.arr 1 (v.map (bI .u)))]⟩
theorem w_j(j:af)(a:Int×List (List Int))(o:(Int×List (List Int))⊕(List (List Int)))(h:M_j j a=some o):AWP (OkS Tryz.prog) wu (qL [1,3,6] [1,3] (S_j j) (qX 4 [3] [3] (uP)) o) (S_j j a):=by
 have e:=ZA @S_j.eq_1 @uP.eq_1;unfold M_j at h;simp only[ZC,S_j,wu];obtain⟨d,h⟩|⟨d,h⟩:=aq h
 ·obtain⟨c1,p,h⟩:=ae h;obtain⟨k,h⟩|⟨k,h⟩:=aq h
  ·obtain⟨b,c,h⟩:=aK h;have x:Row.arr 1 [(.i a.1:AV)]=Row.arr 1 (b.map AV.i):=by rw[<-c];rfl
   have q:b.length=1:=by rw[<-c];rfl
   have y:sub (b.map AV.i) 0 1=b.map AV.i:=uY _ (by simp[<-c]);obtain⟨l,g,h⟩:=aK h;have z:Row.arr 1 [(.lst .u 1 (b.map AV.i):AV)]=Row.arr 1 (l.map (bI .u)):=by rw[<-g];rfl
   have s:l.length=1:=by rw[<-g];rfl
   obtain⟨d1,a1,h⟩:=ae h;have t:=aI a1;obtain⟨v,m,h⟩:=aK h;have b1:a.2.map (bI .u)++l.map (bI .u)=v.map (bI .u):=by rw[<-m,List.map_append]
   have w:a.2.length+1=v.length:=by simp[<-c,<-g,<-m]<;>omega
   rw[w] at t;cases h;exact ZL (ZA d (ZA (aL p) (ZA k (ZA x (ZA q (ZA y (ZA z (ZA s (ZA t (ZA b1 w)))))))))) (ZA e (ZA c.symm (ZA g.symm (ZA m.symm (ZA q s)))))
  ·cases h;exact ZL (ZA d (ZA (aL p) k)) e
 ·cases h;exact ZL d e
theorem ND(a:af){r:List (List Int)}(h:pS a=some r):Ok Tryz.prog 128 [.agg [.lst .o 1 (a.Nodes.map AV.z),.lst .o 4 (a.Fibers.map (ai .o))]] (.lst .u 1 (r.map (bI .u))):=by
 refine aA bb m128 rfl ?_;unfold pS at h;simp only[ZC,A128,V10,aH];obtain⟨d,b,h⟩:=ae h;try refine ZF trivial ?_
 refine ax (aX (aB (w_e a) b ?_)) ?_
 ·exact ZK (ZA @S_e.eq_1 @uK.eq_1)
 ·simp only[ZC,uK,Ie];obtain⟨g,c,h⟩:=ae h;try refine ZF trivial ?_
  refine ax (aX (aB (w_j a) c ?_)) ?_
  ·exact ZK (ZA @S_j.eq_1 @uP.eq_1)
  ·simp only[ZC,uP,Jx];cases h;exact ZL trivial @V10.eq_1
def ES(a:af)(v:Int×List Int×aw):St:=⟨[(0,.pt 1000000000 0 0),(3,.pt 3 0 0),(5,.sl 5 0 v.2.1.length),(6,.i v.1)],[(3,.var (.agg [.lst .m 1 (((a).Nodes).map AV.z),.lst .m 4 (((a).Fibers).map (ai .m))])),(5,.arr 1 (v.2.1.map AV.i)),(1000000000,.var (.agg [.lst .o 1 (((v.2.2).code).map AV.u8),.i ((v.2.2).atF),.sc (.int .u64 ((v.2.2).seed))]))]⟩
def yW(a:af)(v:List Int×aw):St:=⟨[(0,.pt 1000000000 0 0),(3,.pt 3 0 0),(5,.sl 5 0 v.1.length)],[(3,.var (.agg [.lst .m 1 (((a).Nodes).map AV.z),.lst .m 4 (((a).Fibers).map (ai .m))])),(5,.arr 1 (v.1.map AV.i)),(1000000000,.var (.agg [.lst .o 1 (((v.2).code).map AV.u8),.i ((v.2).atF),.sc (.int .u64 ((v.2).seed))]))]⟩
theorem w_bg(c:af)(b:Int×List Int×aw)(o:(Int×List Int×aw)⊕(List Int×aw))(h:Lu c b=some o):AWP (OkS Tryz.prog) nw (qL [0,3,5,6] [3,5,1000000000] (ES c) (qX 0 [0,3,5] [3,5,1000000000] (yW c)) o) (ES c b):=by
 have e:=ZA @ES.eq_1 @yW.eq_1;unfold Lu at h;simp only[ZC,ES,nw];obtain⟨a,h⟩|⟨a,h⟩:=aq h
 ·obtain⟨w,s,h⟩:=ae h;refine ZF a ?_;refine ZWG a (Qs _ _ s) [1000000000] [] ?_;obtain⟨g,h⟩|⟨g,h⟩:=aq h
  ·obtain⟨j,d,h⟩:=aK h;have t:Row.arr 1 [(.i b.1:AV)]=Row.arr 1 (j.map AV.i):=by rw[<-d];rfl
   have l:j.length=1:=by rw[<-d];rfl
   obtain⟨x,u,h⟩:=ae h;have m:=aI u;obtain⟨p,k,h⟩:=aK h;have v:b.2.1.map AV.i++j.map AV.i=p.map AV.i:=by rw[<-k,List.map_append]
   have q:b.2.1.length+1=p.length:=by simp[<-d,<-k]<;>omega
   rw[q] at m;cases h;exact ZL (ZA a (ZA g (ZA t (ZA l (ZA m (ZA v q)))))) (ZA e (ZA d.symm (ZA k.symm l)))
  ·cases h;exact ZL (ZA a g) e
 ·cases h;exact ZL a e
def Gm(b:List Int×aw)(c:List (List Int))(a:Bool×aw)(v:Nat):St:=⟨[(5,.sl 5 0 v),(7,.i (c.length:Int))],[(5,.arr 1 (b.1.map AV.i)),(1000000000,.var (.agg [.lst .o 1 (((a.2).code).map AV.u8),.i ((a.2).atF),.sc (.int .u64 ((a.2).seed))]))]⟩
def yG(b:List Int×aw)(a:Bool×aw)(v:Nat):St:=⟨[(5,.sl 5 0 v)],[(5,.arr 1 (b.1.map AV.i)),(1000000000,.var (.agg [.lst .o 1 (((a.2).code).map AV.u8),.i ((a.2).atF),.sc (.int .u64 ((a.2).seed))]))]⟩
theorem w_am(c:List Int×aw)(d:List (List Int))(a:Bool×aw)(g:Nat)(o:Nat⊕Nat)(h:DY c d g=some o):AWP (OkS Tryz.prog) nR (qL [5,7] [5,1000000000] (Gm c d a) (qX 2 [5] [5,1000000000] (yG c a)) o) (Gm c d a g):=by
 have e:=ZA @Gm.eq_1 @yG.eq_1;unfold DY at h;simp only[ZC,Gm,nR];obtain⟨l,m,h⟩:=ae h;try refine ZF trivial ?_
 refine ax (sh:=(fun v=>⟨[(5,.sl 5 0 g),(7,.i (d.length:Int)),(40,.b v)],[(5,.arr 1 (c.1.map AV.i)),(1000000000,.var (.agg [.lst .o 1 (((a.2).code).map AV.u8),.i ((a.2).atF),.sc (.int .u64 ((a.2).seed))]))]⟩)) (s:=l) ?_ ?_
 ·replace h:=m;obtain⟨j,h⟩|⟨j,h⟩:=aq h
  ·obtain⟨u,p,h⟩:=ae h;obtain⟨w,q,h⟩:=ae h;cases h;exact ZL (ZA j (ZA (aI p) q)) trivial
  ·cases h;exact ZL j trivial
 ·simp only[ZC,ta];obtain⟨k,h⟩|⟨k,h⟩:=aq h
  ·obtain⟨x,t,h⟩:=ae h;cases h;exact ZL (ZA k (aI t)) e
  ·cases h;exact ZL k e
theorem w_gq(a:af)(b:aw){r:Nat×Nat×List Int×aw}(h:Kx a b=some r):OkM Tryz.prog 137 [.pt 1000000000 0 0,.agg [.lst .m 1 (((a).Nodes).map AV.z),.lst .m 4 (((a).Fibers).map (ai .m))]] [(1000000000,.var (.agg [.lst .o 1 (((b).code).map AV.u8),.i ((b).atF),.sc (.int .u64 ((b).seed))]))] (.sl 4 r.1 r.2.1) ([(4,.arr 1 (r.2.2.1.map AV.i)),(1000000000,.var (.agg [.lst .o 1 (((r.2.2.2).code).map AV.u8),.i ((r.2.2.2).atF),.sc (.int .u64 ((r.2.2.2).seed))]))]):=by
 refine aY (lr:=[4,1000000000]) bb Ur rfl rfl ?_;unfold Kx at h;simp only[ZC,EI,ay];obtain⟨c,p,h⟩:=ae h;try refine ZF trivial ?_
 refine ax (aX (aB (w_bg a) p ?_)) ?_
 ·exact ZK (ZA @ES.eq_1 @yW.eq_1)
 ·simp only[ZC,yW,tB];obtain⟨q,t,h⟩:=ae h;try refine ZF trivial ?_
  refine ax (sh:=(fun v=>⟨[(5,.sl 5 0 v.1)],[(5,.arr 1 (c.1.map AV.i)),(1000000000,.var (.agg [.lst .o 1 (((v.2).code).map AV.u8),.i ((v.2).atF),.sc (.int .u64 ((v.2).seed))]))]⟩)) (s:=q) ?_ ?_
  ·replace h:=t;obtain⟨g,u,h⟩:=ae h;refine ZF trivial ?_;refine ZUG trivial (ND _ u) ?_;obtain⟨j,w,h⟩:=ae h;refine ZF trivial ?_;refine ZWG trivial (Qs _ _ w) [1000000000] [] ?_;obtain⟨d,h⟩|⟨d,h⟩:=aq h
   ·obtain⟨x,k,h⟩:=ae h;try refine ZF d ?_
    first|refine de (aX (aB (w_am c g j) k ?_)) (fun τ l=>?_)|refine dM (aB (w_am c g j) k ?_) (fun τ l=>?_)
    ·exact ZK (ZA @Gm.eq_1 @yG.eq_1)
    ·cases h;try refine ZF trivial ?_
     refine⟨rfl,Shp.sub l (by decide) (by decide) ?_⟩;exact ZK @yG.eq_1
   ·cases h;exact ZL d trivial
  ·simp only[ZC,tP];cases h;exact ZL trivial @ay.eq_1
theorem w_hp(a:List Int){r:af×Nat×Nat×Nat×Nat×List ah×List Int×List Int}(h:QC a=some r):OkM Tryz.prog 126 [.lst .o 1 (a.map AV.u8)] [] (.tup [.agg [.lst .m 1 (((r.1).Nodes).map AV.z),.lst .m 4 (((r.1).Fibers).map (ai .m))],.sl 3 r.2.1 r.2.2.1,.sl 4 0 r.2.2.2.2.2.2.1.length,.sl 5 r.2.2.2.1 r.2.2.2.2.1]) ([(3,.arr 10 (r.2.2.2.2.2.1.map (aj .m))),(4,.arr 1 (r.2.2.2.2.2.2.1.map AV.i)),(5,.arr 1 (r.2.2.2.2.2.2.2.map AV.i))]):=by
 refine aY (lr:=[3,4,5]) bb UO rfl rfl ?_;unfold QC at h;simp only[ZC,Kr,me];obtain⟨g,b,h⟩:=ae h;refine ZF trivial ?_;refine ZWG trivial (w_go _ b) [3,1000000000] [1500003] ?_;obtain⟨j,c,h⟩:=ae h;refine ZF trivial ?_;refine ZWG trivial (w_gp _ _ _ _ c) [4,1000000000,1000000001] [2200004] ?_;obtain⟨k,d,h⟩:=ae h;refine ZF trivial ?_;refine ZWG trivial (w_gq _ _ d) [4,1000000000] [2500004] ?_;cases h;exact ZL trivial @me.eq_1
theorem w_gr(a:List Int){r:af×Nat×Nat×Nat×Nat×List ah×List Int×List Int}(h:MR a=some r):OkM Tryz.prog 53 [.lst .o 1 (a.map AV.u8)] [] (.tup [.agg [.lst .m 1 (((r.1).Nodes).map AV.z),.lst .m 4 (((r.1).Fibers).map (ai .m))],.sl 3 r.2.1 r.2.2.1,.sl 4 0 r.2.2.2.2.2.2.1.length,.sl 5 r.2.2.2.1 r.2.2.2.2.1]) ([(3,.arr 10 (r.2.2.2.2.2.1.map (aj .m))),(4,.arr 1 (r.2.2.2.2.2.2.1.map AV.i)),(5,.arr 1 (r.2.2.2.2.2.2.2.map AV.i))]):=by
 refine aY (lr:=[3,4,5]) bb VX rfl rfl ?_;unfold MR at h;simp only[ZC,Rl,me];obtain⟨c,b,h⟩:=ae h;refine ZF trivial ?_;refine ZWG trivial (w_hp _ b) [3,4,5] [800003,800004,800005] ?_;cases h;exact ZL trivial @me.eq_1
theorem w_h(c:Int)(d:Int)(g:Int){r:Bool}(h:M_h c d g=some r):Ok Tryz.prog 76 [.i c,.i d,.i g] (.b r):=by
 refine aA bb m76 rfl ?_;unfold M_h at h;simp only[ZC,A76,bJ,aH];obtain⟨a,h⟩|⟨a,h⟩:=aq h
 ·cases h;exact ZL a @bJ.eq_1
 ·cases h;exact ZL a @bJ.eq_1
def HO(a:ByteArray)(v:Int):St:=⟨[(0,.z a),(7,.i (a.size:Int)),(8,.i v)],[]⟩
def yn(a:ByteArray)(v:Unit):St:=⟨[(0,.z a)],[]⟩
theorem w_ac(c:ByteArray)(j:Int)(o:Int⊕(Unit⊕Bool))(h:BR c j=some o):AWP (OkS Tryz.prog) xk (qL [0,7,8] [] (HO c) (qS (qX 0 [0] [] (yn c)) (qR V10 (fun r=>.b r))) o) (HO c j):=by
 have e:=ZA @HO.eq_1 @yn.eq_1;unfold BR at h;simp only[ZC,HO,xk];obtain⟨a,h⟩|⟨a,h⟩:=aq h
 ·obtain⟨t,u,h⟩:=ae h;try refine ZF a ?_
  refine ax (sh:=(fun v=>⟨[(0,.z c),(3,.i j),(4,.b v.1),(5,.b v.2),(7,.i (c.size:Int)),(8,.i j)],[]⟩)) (s:=t) ?_ ?_
  ·replace h:=u;obtain⟨w,k,h⟩:=ae h;obtain⟨d,h⟩|⟨d,h⟩:=aq h
   ·obtain⟨m,h⟩|⟨m,h⟩:=aq h
    ·cases h;exact ZL (ZA a (ZA (jf k) (ZA d m))) trivial
    ·cases h;exact ZL (ZA a (ZA (jf k) (ZA d m))) trivial
   ·obtain⟨p,h⟩|⟨p,h⟩:=aq h
    ·cases h;exact ZL (ZA a (ZA (jf k) (ZA d p))) trivial
    ·cases h;exact ZL (ZA a (ZA (jf k) (ZA d p))) trivial
  ·simp only[ZC,Ji];obtain⟨g,h⟩|⟨g,h⟩:=aq h
   ·obtain⟨l,h⟩|⟨l,h⟩:=aq h
    ·cases h;exact ZL (ZA a (ZA g l)) @V10.eq_1
    ·obtain⟨q,h⟩|⟨q,h⟩:=aq h
     ·cases h;exact ZL (ZA a (ZA g (ZA l q))) @V10.eq_1
     ·cases h;exact ZL (ZA a (ZA g (ZA l q))) e
   ·cases h;exact ZL (ZA a g) e
 ·cases h;exact ZL a e
theorem w_ew(a:ByteArray){r:Bool}(h:Hc a=some r):Ok Tryz.prog 147 [.z a] (.b r):=by
 refine aA bb m147 rfl ?_;unfold Hc at h;simp only[ZC,A147,V10,aH];obtain⟨c,d,h⟩:=ae h;try refine ZF trivial ?_
 refine bj (o:=c) (bq cD (aB (w_ac a) d ?_)) (fun j hv=>?_) (fun k hv e τ hne hq=>?_)
 ·exact ZK (ZA @HO.eq_1 @yn.eq_1)
 ·subst hv;simp only[] at h;simp only[ZC,yn,LS];obtain⟨l,g,h⟩:=ae h;refine ZF trivial ?_;refine ZSG trivial (w_h _ _ _ g) ?_;cases h;exact ZL trivial @V10.eq_1
 ·subst hv;simp only[] at h;obtain⟨rfl,i⟩:=hq;cases h;exact i
def Ip(a:List ByteArray)(b:ByteArray)(v:Int):St:=⟨[(0,.lst .o 1 (a.map AV.z)),(1,.z b),(7,.i (a.length:Int)),(8,.i v)],[]⟩
theorem w_by(b:List ByteArray)(c:ByteArray)(g:Int)(o:Int⊕(Unit⊕Int))(h:Ch b c g=some o):AWP (OkS Tryz.prog) vG (qL [0,1,7,8] [] (Ip b c) (qS (qX 0 [] [] (bO)) (qR ay (fun r=>.i r))) o) (Ip b c g):=by
 have e:=ZA @Ip.eq_1 @bO.eq_1;unfold Ch at h;simp only[ZC,Ip,vG];obtain⟨a,h⟩|⟨a,h⟩:=aq h
 ·obtain⟨k,j,h⟩:=ae h;obtain⟨d,h⟩|⟨d,h⟩:=aq h
  ·cases h;exact ZL (ZA a (ZA (aL j) d)) @ay.eq_1
  ·cases h;exact ZL (ZA a (ZA (aL j) d)) e
 ·cases h;exact ZL a e
theorem w_hg(a:List ByteArray)(b:ByteArray){r:Int}(h:Qk a b=some r):Ok Tryz.prog 206 [.lst .o 1 (a.map AV.z),.z b] (.i r):=by
 refine aA bb m206 rfl ?_;unfold Qk at h;simp only[ZC,A206,ay,aH];obtain⟨c,d,h⟩:=ae h;try refine ZF trivial ?_
 refine bj (o:=c) (bq cD (aB (w_by a b) d ?_)) (fun j hv=>?_) (fun k hv e τ hne hq=>?_)
 ·exact ZK (ZA @Ip.eq_1 @bO.eq_1)
 ·subst hv;simp only[] at h;simp only[ZC,bO,Mw];cases h;exact ZL trivial @ay.eq_1
 ·subst hv;simp only[] at h;obtain⟨rfl,g⟩:=hq;cases h;exact g
theorem w_fa(a:List ByteArray)(c:ByteArray){r:Bool}(h:Hj a c=some r):Ok Tryz.prog 148 [.lst .o 1 (a.map AV.z),.z c] (.b r):=by
 refine aA bb m148 rfl ?_;unfold Hj at h;simp only[ZC,A148,ay,aH];obtain⟨g,d,h⟩:=ae h;refine ZF trivial ?_;refine ZSG trivial (w_hg _ _ d) ?_;cases h;exact ZL trivial @ay.eq_1
theorem QJ(a:Int){r:Bool}(h:uL a=some r):Ok Tryz.prog 224 [.i a] (.b r):=by
 refine aA bb m224 rfl ?_;unfold uL at h;simp only[ZC,A224,V10,aH];cases h;exact ZL trivial @V10.eq_1
theorem Qd(j:Int)(k:Int){r:Int}(h:ud j k=some r):Ok Tryz.prog 189 [.i j,.i k] (.i r):=by
 have e:=@ay.eq_1;refine aA bb m189 rfl ?_;unfold ud at h;simp only[ZC,A189,ay,aH];obtain⟨p,l,h⟩:=ae h;refine ZF trivial ?_;refine ZSG trivial (QJ _ l) ?_;obtain⟨q,m,h⟩:=ae h;refine ZF trivial ?_;refine ZSG trivial (QJ _ m) ?_;obtain⟨a,h⟩|⟨a,h⟩:=aq h
 ·obtain⟨d,h⟩|⟨d,h⟩:=aq h
  ·cases h;exact ZL (ZA a d) e
  ·cases h;exact ZL (ZA a d) e
 ·obtain⟨b,h⟩|⟨b,h⟩:=aq h
  ·cases h;exact ZL (ZA a b) e
  ·obtain⟨c,h⟩|⟨c,h⟩:=aq h
   ·cases h;exact ZL (ZA a (ZA b c)) e
   ·obtain⟨g,h⟩|⟨g,h⟩:=aq h
    ·cases h;exact ZL (ZA a (ZA b (ZA c g))) e
    ·cases h;exact ZL (ZA a (ZA b (ZA c g))) e
def Ff(a:List Int)(v:Int):St:=⟨[(3,.i 0),(6,.lst .o 1 (a.map AV.i)),(7,.i (a.length:Int)),(8,.i v)],[]⟩
def zT(v:Unit):St:=⟨[(3,.i 0)],[]⟩
theorem w_ad(b:List Int)(d:Int)(o:Int⊕(Unit⊕Int))(h:Cn b d=some o):AWP (OkS Tryz.prog) wH (qL [3,6,7,8] [] (Ff b) (qS (qX 0 [3] [] (zT)) (qR V10 (fun r=>.i r))) o) (Ff b d):=by
 have e:=ZA @Ff.eq_1 @zT.eq_1;unfold Cn at h;simp only[ZC,Ff,wH];obtain⟨a,h⟩|⟨a,h⟩:=aq h
 ·obtain⟨j,g,h⟩:=ae h;obtain⟨c,h⟩|⟨c,h⟩:=aq h
  ·cases h;exact ZL (ZA a (ZA (aL g) c)) @V10.eq_1
  ·cases h;exact ZL (ZA a (ZA (aL g) c)) e
 ·cases h;exact ZL a e
theorem w_hh(a:List Int){r:Int}(h:QE a=some r):Ok Tryz.prog 188 [.lst .o 1 (a.map AV.i)] (.i r):=by
 refine aA bb m188 rfl ?_;unfold QE at h;simp only[ZC,A188,V10,aH];obtain⟨b,c,h⟩:=ae h;try refine ZF trivial ?_
 refine bj (o:=b) (bq cD (aB (w_ad a) c ?_)) (fun g hv=>?_) (fun j hv e τ hne hq=>?_)
 ·exact ZK (ZA @Ff.eq_1 @zT.eq_1)
 ·subst hv;simp only[] at h;simp only[ZC,zT,Kf];cases h;exact ZL trivial @V10.eq_1
 ·subst hv;simp only[] at h;obtain⟨rfl,d⟩:=hq;cases h;exact d
theorem w_fb(a:az)(b:az){r:Int}(h:Iq a b=some r):Ok Tryz.prog 149 [.agg [.i a.A,.i a.B,.i a.Length,.i a.Risk],.agg [.i b.A,.i b.B,.i b.Length,.i b.Risk]] (.i r):=by
 refine aA bb m149 rfl ?_;unfold Iq at h;simp only[ZC,A149,ay,aH];obtain⟨j,k,h⟩:=ae h;refine ZF trivial ?_;refine ZSG trivial (Qd _ _ k) ?_;obtain⟨l,m,h⟩:=ae h;refine ZF trivial ?_;refine ZSG trivial (Qd _ _ m) ?_;obtain⟨p,q,h⟩:=ae h;refine ZF trivial ?_;refine ZSG trivial (Qd _ _ q) ?_;obtain⟨s,t,h⟩:=ae h;refine ZF trivial ?_;refine ZSG trivial (Qd _ _ t) ?_;obtain⟨c,d,h⟩:=aK h;have u:Row.arr 1 [(.i j:AV),(.i l:AV),(.i p:AV),(.i s:AV)]=Row.arr 1 (c.map AV.i):=by rw[<-d];rfl
 have g:c.length=4:=by rw[<-d];rfl
 have v:sub (c.map AV.i) 0 4=c.map AV.i:=uY _ (by simp[<-d]);obtain⟨x,w,h⟩:=ae h;have f:=ZA u (ZA g v);refine ZF f ?_;refine ZSG f (w_hh _ w) ?_;cases h;exact ZL f (ZA @ay.eq_1 (ZA d.symm g))
def AQ(a:af)(v:Int):St:=⟨[(1,.pt 1 0 0),(8,.lst .o 1 (a.Nodes.map AV.z)),(9,.i (a.Nodes.length:Int)),(10,.i v)],[(1,.var (.agg [.lst .o 1 (a.Nodes.map AV.z),.lst .o 4 (a.Fibers.map (ai .o))]))]⟩
theorem w_bp(a:af)(i:Int)(o:Int⊕(Unit⊕Bool))(h:Dg a i=some o):AWP (OkS Tryz.prog) Fe (qL [1,8,9,10] [1] (AQ a) (qS (qX 0 [1] [1] (kv a)) (qR V10 (fun r=>.b r))) o) (AQ a i):=by
 unfold Dg at h;simp only[ZC,AQ,Fe];obtain⟨c,h⟩|⟨c,h⟩:=aq h
 ·obtain⟨v,j,h⟩:=ae h;obtain⟨w,k,h⟩:=ae h;have f:=ZA c (aL j);refine ZF f ?_;refine ZSG f (w_ew _ k) ?_;obtain⟨d,h⟩|⟨d,h⟩:=aq h
  ·cases h;exact ZL (ZA f d) @V10.eq_1
  ·obtain⟨x,l,h⟩:=ae h;obtain⟨m,p,q,s,t⟩:=yl AV.z l;obtain⟨y,u,h⟩:=ae h;have f:=ZA f (ZA d (ZA m (ZA p (ZA q (ZA s t)))));refine ZF f ?_;refine ZSG f (w_fa _ _ u) ?_;obtain⟨g,h⟩|⟨g,h⟩:=aq h
   ·cases h;exact ZL (ZA f g) @V10.eq_1
   ·cases h;exact ZL (ZA f g) (ZA @AQ.eq_1 @kv.eq_1)
 ·cases h;exact ZL c (ZA @AQ.eq_1 @kv.eq_1)
def wo(a:af)(v:Int):St:=⟨[(1,.pt 1 0 0),(28,.lst .o 4 (a.Fibers.map (ai .o))),(29,.i (a.Fibers.length:Int)),(30,.i v)],[(1,.var (.agg [.lst .o 1 (a.Nodes.map AV.z),.lst .o 4 (a.Fibers.map (ai .o))]))]⟩
theorem w_bk(d:af)(q:Int)(o:Int⊕(Unit⊕Bool))(h:BP d q=some o):AWP (OkS Tryz.prog) FS (qL [1,28,29,30] [1] (wo d) (qS (qX 2 [1] [1] (kv d)) (qR V10 (fun r=>.b r))) o) (wo d q):=by
 have e:=@V10.eq_1;unfold BP at h;simp only[ZC,wo,FS];obtain⟨a,h⟩|⟨a,h⟩:=aq h
 ·obtain⟨w,g,h⟩:=ae h;obtain⟨c,h⟩|⟨c,h⟩:=aq h
  ·cases h;exact ZL (ZA a (ZA (aL g) c)) e
  ·obtain⟨i,h⟩|⟨i,h⟩:=aq h
   ·cases h;exact ZL (ZA a (ZA (aL g) (ZA c i))) e
   ·obtain⟨k,h⟩|⟨k,h⟩:=aq h
    ·cases h;exact ZL (ZA a (ZA (aL g) (ZA c (ZA i k)))) e
    ·obtain⟨x,s,h⟩:=ae h;have f:=ZA a (ZA (aL g) (ZA c (ZA i k)));refine ZF f ?_;refine ZSG f (w_h _ _ _ s) ?_;obtain⟨l,h⟩|⟨l,h⟩:=aq h
     ·cases h;exact ZL (ZA f l) e
     ·obtain⟨y,t,h⟩:=ae h;have f:=ZA f l;refine ZF f ?_;refine ZSG f (w_h _ _ _ t) ?_;obtain⟨j,h⟩|⟨j,h⟩:=aq h
      ·cases h;exact ZL (ZA f j) e
      ·obtain⟨m,h⟩|⟨m,h⟩:=aq h
       ·obtain⟨z,u,h⟩:=ae h;obtain⟨a1,v,h⟩:=ae h;have f:=ZA f (ZA j (ZA m (aL u)));refine ZF f ?_;refine ZSG f (w_fb _ _ v) ?_;obtain⟨p,h⟩|⟨p,h⟩:=aq h
        ·cases h;exact ZL (ZA f p) e
        ·cases h;exact ZL (ZA f p) (ZA @wo.eq_1 @kv.eq_1)
       ·cases h;exact ZL (ZA f (ZA j m)) (ZA @wo.eq_1 @kv.eq_1)
 ·cases h;exact ZL a (ZA @wo.eq_1 @kv.eq_1)
theorem w_fp(a:af){r:Bool}(h:KK a=some r):Ok Tryz.prog 81 [.agg [.lst .o 1 (a.Nodes.map AV.z),.lst .o 4 (a.Fibers.map (ai .o))]] (.b r):=by
 refine aA bb m81 rfl ?_;unfold KK at h;simp only[ZC,A81,V10,aH];obtain⟨d,g,h⟩:=ae h;try refine ZF trivial ?_
 refine bj (o:=d) (bq cD (aB (w_bp a) g ?_)) (fun p hv=>?_) (fun q hv e τ hne hq=>?_)
 ·exact ZK (ZA @AQ.eq_1 @kv.eq_1)
 ·subst hv;simp only[] at h;simp only[ZC,kv,Sk];obtain⟨i,j,h⟩:=ae h;try refine ZF trivial ?_
  refine bj (o:=i) (bq cD (aB (w_bk a) j ?_)) (fun s hv=>?_) (fun t hv e τ hne hq=>?_)
  ·exact ZK (ZA @wo.eq_1 @kv.eq_1)
  ·subst hv;simp only[] at h;simp only[ZC,kv,SC];obtain⟨u,k,h⟩:=ae h;refine ZF trivial ?_;refine ZSG trivial (w_h _ _ _ k) ?_;obtain⟨c,h⟩|⟨c,h⟩:=aq h
   ·cases h;exact ZL c @V10.eq_1
   ·cases h;exact ZL c @V10.eq_1
  ·subst hv;simp only[] at h;obtain⟨rfl,l⟩:=hq;cases h;exact l
 ·subst hv;simp only[] at h;obtain⟨rfl,m⟩:=hq;cases h;exact m
theorem w_fo(a:az)(d:Int){r:Int}(h:Fp a d=some r):Ok Tryz.prog 215 [.agg [.i a.A,.i a.B,.i a.Length,.i a.Risk],.i d] (.i r):=by
 refine aA bb m215 rfl ?_;unfold Fp at h;simp only[ZC,A215,ay,aH];obtain⟨b,h⟩|⟨b,h⟩:=aq h
 ·cases h;exact ZL b @ay.eq_1
 ·obtain⟨c,h⟩|⟨c,h⟩:=aq h
  ·cases h;exact ZL (ZA b c) @ay.eq_1
  ·cases h;exact ZL (ZA b c) @ay.eq_1
def Jt(a:List Int)(b:Int)(v:Int):St:=⟨[(0,.lst .o 1 (a.map AV.i)),(1,.i b),(7,.i (a.length:Int)),(8,.i v)],[]⟩
theorem w_ce(b:List Int)(c:Int)(g:Int)(o:Int⊕(Unit⊕Int))(h:Ca b c g=some o):AWP (OkS Tryz.prog) xr (qL [0,1,7,8] [] (Jt b c) (qS (qX 0 [] [] (bO)) (qR ay (fun r=>.i r))) o) (Jt b c g):=by
 have e:=ZA @Jt.eq_1 @bO.eq_1;unfold Ca at h;simp only[ZC,Jt,xr];obtain⟨a,h⟩|⟨a,h⟩:=aq h
 ·obtain⟨k,j,h⟩:=ae h;obtain⟨d,h⟩|⟨d,h⟩:=aq h
  ·cases h;exact ZL (ZA a (ZA (aL j) d)) @ay.eq_1
  ·cases h;exact ZL (ZA a (ZA (aL j) d)) e
 ·cases h;exact ZL a e
theorem w_hk(a:List Int)(b:Int){r:Int}(h:Pi a b=some r):Ok Tryz.prog 139 [.lst .o 1 (a.map AV.i),.i b] (.i r):=by
 refine aA bb m139 rfl ?_;unfold Pi at h;simp only[ZC,A139,ay,aH];obtain⟨c,d,h⟩:=ae h;try refine ZF trivial ?_
 refine bj (o:=c) (bq cD (aB (w_ce a b) d ?_)) (fun j hv=>?_) (fun k hv e τ hne hq=>?_)
 ·exact ZK (ZA @Jt.eq_1 @bO.eq_1)
 ·subst hv;simp only[] at h;simp only[ZC,bO,Lm];cases h;exact ZL trivial @ay.eq_1
 ·subst hv;simp only[] at h;obtain⟨rfl,g⟩:=hq;cases h;exact g
theorem SW(a:List Int)(c:Int){r:Bool}(h:xg a c=some r):Ok Tryz.prog 68 [.lst .o 1 (a.map AV.i),.i c] (.b r):=by
 refine aA bb m68 rfl ?_;unfold xg at h;simp only[ZC,A68,ay,aH];obtain⟨g,d,h⟩:=ae h;refine ZF trivial ?_;refine ZSG trivial (w_hk _ _ d) ?_;cases h;exact ZL trivial @ay.eq_1
def BT(a:af)(b:au)(v:Int×Int×List Int):St:=⟨[(2,.pt 2 0 0),(6,.sl 6 0 v.2.2.length),(7,.i v.1),(30,.lst .o 1 (b.Fibers.map AV.i)),(31,.i (b.Fibers.length:Int)),(32,.i v.2.1)],[(2,.var (.agg [.lst .o 1 (a.Nodes.map AV.z),.lst .o 4 (a.Fibers.map (ai .o))])),(6,.arr 1 (v.2.2.map AV.i))]⟩
theorem w_bu(c:af)(d:au)(a:Int×Int×List Int)(o:(Int×Int×List Int)⊕((List Int)⊕(List Int×Bool)))(h:Cr c d a=some o):AWP (OkS Tryz.prog) wL (qL [2,6,7,30,31,32] [2,6] (BT c d) (qS (qX 0 [6] [6] (li)) (qR kW (fun r=>.tup [.lst .u 1 (r.1.map AV.i),.b r.2]))) o) (BT c d a):=by
 unfold Cr at h;simp only[ZC,BT,wL];obtain⟨j,h⟩|⟨j,h⟩:=aq h
 ·obtain⟨q1,b1,h⟩:=ae h;obtain⟨s1,c1,h⟩:=ae h;have f:=ZA j (aL b1);refine ZF f ?_;refine ZSG f (w_h _ _ _ c1) ?_;obtain⟨k,h⟩|⟨k,h⟩:=aq h
  ·cases h;exact ZL (ZA f k) @kW.eq_1
  ·obtain⟨t1,d1,h⟩:=ae h;obtain⟨t,g1,h⟩:=ae h;have f:=ZA f (ZA k (aL d1));refine ZF f ?_;refine ZSG f (w_fo _ _ g1) ?_;obtain⟨i1,j1,h⟩:=ae h;try refine ZF f ?_
   refine ax (sh:=(fun v=>⟨[(2,.pt 2 0 0),(6,.sl 6 0 a.2.2.length),(7,.i t),(30,.lst .o 1 (d.Fibers.map AV.i)),(31,.i (d.Fibers.length:Int)),(32,.i a.2.1),(56,.b v)],[(2,.var (.agg [.lst .o 1 (c.Nodes.map AV.z),.lst .o 4 (c.Fibers.map (ai .o))])),(6,.arr 1 (a.2.2.map AV.i))]⟩)) (s:=i1) ?_ ?_
   ·replace h:=j1;obtain⟨l,h⟩|⟨l,h⟩:=aq h
    ·cases h;exact ZL (ZA f l) trivial
    ·obtain⟨u1,k1,h⟩:=ae h;have f:=ZA f l;refine ZF f ?_;refine ZSG f (SW _ _ k1) ?_;cases h;exact ZL f trivial
   ·simp only[ZC,DW];obtain⟨m,h⟩|⟨m,h⟩:=aq h
    ·cases h;exact ZL (ZA f m) @kW.eq_1
    ·obtain⟨p,g,h⟩:=aK h;have l1:Row.arr 1 [(.i t:AV)]=Row.arr 1 (p.map AV.i):=by rw[<-g];rfl
     have w:p.length=1:=by rw[<-g];rfl
     obtain⟨v1,m1,h⟩:=ae h;have x:=aI m1;obtain⟨y,q,h⟩:=aK h;have p1:a.2.2.map AV.i++p.map AV.i=y.map AV.i:=by rw[<-q,List.map_append]
     have a1:a.2.2.length+1=y.length:=by simp[<-g,<-q]<;>omega
     rw[a1] at x;cases h;exact ZL (ZA f (ZA m (ZA l1 (ZA w (ZA x (ZA p1 a1)))))) (ZA @BT.eq_1 (ZA @li.eq_1 (ZA g.symm (ZA q.symm w))))
 ·cases h;exact ZL j (ZA @BT.eq_1 @li.eq_1)
theorem w_ei(c:af)(a:au){r:List Int×Bool}(h:BJ c a=some r):Ok Tryz.prog 168 [.agg [.lst .o 1 (c.Nodes.map AV.z),.lst .o 4 (c.Fibers.map (ai .o))],.agg [.i a.Start,.lst .o 1 (a.Fibers.map AV.i)]] (.tup [.lst .u 1 (r.1.map AV.i),.b r.2]):=by
 refine aA bb m168 rfl ?_;unfold BJ at h;simp only[ZC,A168,kW,aH];obtain⟨m,p,h⟩:=ae h;try refine ZF trivial ?_
 refine ax (sh:=(fun v=>⟨[(2,.pt 2 0 0),(3,.pt 3 0 0),(23,.b v)],[(2,.var (.agg [.lst .o 1 (c.Nodes.map AV.z),.lst .o 4 (c.Fibers.map (ai .o))])),(3,.var (.agg [.i a.Start,.lst .o 1 (a.Fibers.map AV.i)]))]⟩)) (s:=m) ?_ ?_
 ·replace h:=p;obtain⟨a1,q,h⟩:=ae h;refine ZF trivial ?_;refine ZSG trivial (w_h _ _ _ q) ?_;obtain⟨d,h⟩|⟨d,h⟩:=aq h
  ·cases h;exact ZL d trivial
  ·cases h;exact ZL d trivial
 ·simp only[ZC,KP];obtain⟨g,h⟩|⟨g,h⟩:=aq h
  ·cases h;exact ZL g @kW.eq_1
  ·obtain⟨l,j,h⟩:=aK h;have t:Row.arr 1 [(.i a.Start:AV)]=Row.arr 1 (l.map AV.i):=by rw[<-j];rfl
   have k:l.length=1:=by rw[<-j];rfl
   obtain⟨w,x,h⟩:=ae h;have f:=ZA g (ZA t k);try refine ZF f ?_
   refine bj (o:=w) (bq cD (aB (w_bu c a) x ?_)) (fun b1 hv=>?_) (fun c1 hv e τ hne hq=>?_)
   ·exact ZK (ZA @BT.eq_1 (ZA @li.eq_1 (ZA j.symm k)))
   ·subst hv;simp only[] at h;simp only[ZC,li,JK];cases h;exact ZL f (ZA @kW.eq_1 k)
   ·subst hv;simp only[] at h;obtain⟨rfl,y⟩:=hq;cases h;exact y
theorem w_ej(c:aM){r:Bool}(h:CW c=some r):Ok Tryz.prog 169 [.agg [.i c.First,.i c.Count]] (.b r):=by
 refine aA bb m169 rfl ?_;unfold CW at h;simp only[ZC,A169,V10,aH];obtain⟨a,h⟩|⟨a,h⟩:=aq h
 ·obtain⟨j,g,h⟩:=ae h;refine ZF a ?_;refine ZSG a (w_h _ _ _ g) ?_;obtain⟨d,h⟩|⟨d,h⟩:=aq h
  ·cases h;exact ZL (ZA a d) @V10.eq_1
  ·cases h;exact ZL (ZA a d) @V10.eq_1
 ·cases h;exact ZL a @V10.eq_1
def Gd(a:af)(b:Int×List (List Int))(v:Int×List Int):St:=⟨[(1,.pt 1 0 0),(3,.sl 3 0 b.2.length),(4,.i b.1),(5,.sl 5 0 v.2.length),(17,.lst .o 4 (a.Fibers.map (ai .o))),(18,.i (a.Fibers.length:Int)),(19,.i v.1)],[(1,.var (.agg [.lst .o 1 (a.Nodes.map AV.z),.lst .o 4 (a.Fibers.map (ai .o))])),(3,.arr 1 (b.2.map (bI .u))),(5,.arr 1 (v.2.map AV.i))]⟩
def zg(b:af)(a:Int×List (List Int))(v:List Int):St:=⟨[(1,.pt 1 0 0),(3,.sl 3 0 a.2.length),(4,.i a.1),(5,.sl 5 0 v.length)],[(1,.var (.agg [.lst .o 1 (b.Nodes.map AV.z),.lst .o 4 (b.Fibers.map (ai .o))])),(3,.arr 1 (a.2.map (bI .u))),(5,.arr 1 (v.map AV.i))]⟩
theorem w_an(b:af)(c:Int×List (List Int))(a:Int×List Int)(o:(Int×List Int)⊕(List Int))(h:BG b c a=some o):AWP (OkS Tryz.prog) Gw (qL [1,3,4,5,17,18,19] [1,3,5] (Gd b c) (qX 2 [1,3,4,5] [1,3,5] (zg b c)) o) (Gd b c a):=by
 have e:=ZA @Gd.eq_1 @zg.eq_1;unfold BG at h;simp only[ZC,Gd,Gw];obtain⟨d,h⟩|⟨d,h⟩:=aq h
 ·obtain⟨x,m,h⟩:=ae h;obtain⟨j,h⟩|⟨j,h⟩:=aq h
  ·obtain⟨k,g,h⟩:=aK h;have u:Row.arr 1 [(.i a.1:AV)]=Row.arr 1 (k.map AV.i):=by rw[<-g];rfl
   have p:k.length=1:=by rw[<-g];rfl
   obtain⟨y,v,h⟩:=ae h;have q:=aI v;obtain⟨s,l,h⟩:=aK h;have w:a.2.map AV.i++k.map AV.i=s.map AV.i:=by rw[<-l,List.map_append]
   have t:a.2.length+1=s.length:=by simp[<-g,<-l]<;>omega
   rw[t] at q;cases h;exact ZL (ZA d (ZA (aL m) (ZA j (ZA u (ZA p (ZA q (ZA w t))))))) (ZA e (ZA g.symm (ZA l.symm p)))
  ·cases h;exact ZL (ZA d (ZA (aL m) j)) e
 ·cases h;exact ZL d e
theorem w_et(a:af)(b:Int×List (List Int))(o:(Int×List (List Int))⊕(List (List Int)))(h:Da a b=some o):AWP (OkS Tryz.prog) Er (qL [1,3,4] [1,3] (S_e a) (qX 0 [1,3] [1,3] (uK a)) o) (S_e a b):=by
 have e:=ZA @S_e.eq_1 @uK.eq_1;unfold Da at h;simp only[ZC,S_e,Er];obtain⟨c,h⟩|⟨c,h⟩:=aq h
 ·obtain⟨s,t,h⟩:=ae h;try refine ZF c ?_
  refine ax (aX (aB (w_an a b) t ?_)) ?_
  ·exact ZK (ZA @Gd.eq_1 @zg.eq_1)
  ·simp only[ZC,zg,SG];obtain⟨g,h⟩|⟨g,h⟩:=aq h
   ·obtain⟨j,d,h⟩:=aK h;have v:Row.arr 1 [(.lst .u 1 (s.map AV.i):AV)]=Row.arr 1 (j.map (bI .u)):=by rw[<-d];rfl
    have l:j.length=1:=by rw[<-d];rfl
    obtain⟨y,w,h⟩:=ae h;have m:=aI w;obtain⟨p,k,h⟩:=aK h;have x:b.2.map (bI .u)++j.map (bI .u)=p.map (bI .u):=by rw[<-k,List.map_append]
    have q:b.2.length+1=p.length:=by simp[<-d,<-k]<;>omega
    rw[q] at m;cases h;exact ZL (ZA c (ZA g (ZA v (ZA l (ZA m (ZA x q)))))) (ZA e (ZA d.symm (ZA k.symm l)))
   ·cases h;exact ZL (ZA c g) e
 ·cases h;exact ZL c e
def FQ(a:af)(v:Int×List (List Int)):St:=⟨[(3,.sl 3 0 v.2.length),(41,.lst .o 4 (a.Fibers.map (ai .o))),(42,.i (a.Fibers.length:Int)),(43,.i v.1)],[(3,.arr 1 (v.2.map (bI .u)))]⟩
theorem w_cn(j:af)(a:Int×List (List Int))(o:(Int×List (List Int))⊕(List (List Int)))(h:AL j a=some o):AWP (OkS Tryz.prog) Fm (qL [3,41,42,43] [3] (FQ j) (qX 4 [3] [3] (uP)) o) (FQ j a):=by
 have e:=ZA @FQ.eq_1 @uP.eq_1;unfold AL at h;simp only[ZC,FQ,Fm];obtain⟨d,h⟩|⟨d,h⟩:=aq h
 ·obtain⟨c1,p,h⟩:=ae h;obtain⟨k,h⟩|⟨k,h⟩:=aq h
  ·obtain⟨b,c,h⟩:=aK h;have x:Row.arr 1 [(.i a.1:AV)]=Row.arr 1 (b.map AV.i):=by rw[<-c];rfl
   have q:b.length=1:=by rw[<-c];rfl
   have y:sub (b.map AV.i) 0 1=b.map AV.i:=uY _ (by simp[<-c]);obtain⟨l,g,h⟩:=aK h;have z:Row.arr 1 [(.lst .u 1 (b.map AV.i):AV)]=Row.arr 1 (l.map (bI .u)):=by rw[<-g];rfl
   have s:l.length=1:=by rw[<-g];rfl
   obtain⟨d1,a1,h⟩:=ae h;have t:=aI a1;obtain⟨v,m,h⟩:=aK h;have b1:a.2.map (bI .u)++l.map (bI .u)=v.map (bI .u):=by rw[<-m,List.map_append]
   have w:a.2.length+1=v.length:=by simp[<-c,<-g,<-m]<;>omega
   rw[w] at t;cases h;exact ZL (ZA d (ZA (aL p) (ZA k (ZA x (ZA q (ZA y (ZA z (ZA s (ZA t (ZA b1 w)))))))))) (ZA e (ZA c.symm (ZA g.symm (ZA m.symm (ZA q s)))))
  ·cases h;exact ZL (ZA d (ZA (aL p) k)) e
 ·cases h;exact ZL d e
theorem Pk(a:af){r:List (List Int)}(h:uS a=some r):Ok Tryz.prog 78 [.agg [.lst .o 1 (a.Nodes.map AV.z),.lst .o 4 (a.Fibers.map (ai .o))]] (.lst .u 1 (r.map (bI .u))):=by
 refine aA bb m78 rfl ?_;unfold uS at h;simp only[ZC,A78,V10,aH];obtain⟨d,b,h⟩:=ae h;try refine ZF trivial ?_
 refine ax (aX (aB (w_et a) b ?_)) ?_
 ·exact ZK (ZA @S_e.eq_1 @uK.eq_1)
 ·simp only[ZC,uK,Rn];obtain⟨g,c,h⟩:=ae h;try refine ZF trivial ?_
  refine ax (aX (aB (w_cn a) c ?_)) ?_
  ·exact ZK (ZA @FQ.eq_1 @uP.eq_1)
  ·simp only[ZC,uP,RH];cases h;exact ZL trivial @V10.eq_1
theorem w_gs(a:List Int)(p1Z0:Int){r:Bool}(h:Ev a p1Z0=some r):Ok Tryz.prog 248 [.lst .o 1 (a.map AV.i),.bp .o (.i p1Z0) 0] (.b r):=by
 refine aA bb m248 rfl ?_;unfold Ev at h;simp only[ZC,A248,DF,aH];obtain⟨d,c,h⟩:=ae h;refine ZF trivial ?_;refine ZSG trivial (SW _ _ c) ?_;cases h;exact ZL trivial @DF.eq_1
def Ef(a:List (List Int))(F_fZ0:Nat)(C_fZ0:List AV)(v:Int):St:=⟨[(0,.lst .o 1 (a.map (bI .o))),(1,.fn F_fZ0 C_fZ0),(7,.i (a.length:Int)),(8,.i v)],[]⟩
theorem w_co(c:List (List Int))(j:(List Int)->Option Bool)(F_fZ0:Nat)(C_fZ0:List AV)(hC_fZ0:lm C_fZ0)(hf_fZ0:∀(x0:List Int)(r:Bool),j x0=some r->Ok Tryz.prog F_fZ0 ((.lst .o 1 (x0.map AV.i))::C_fZ0) (.b r))(k:Int)(o:Int⊕(Unit⊕Int))(h:CC c j k=some o):AWP (OkS Tryz.prog) xt (qL [0,1,7,8] [] (Ef c F_fZ0 C_fZ0) (qS (qX 0 [] [] (bO)) (qR ay (fun r=>.i r))) o) (Ef c F_fZ0 C_fZ0 k):=by
 have e:=ZA @Ef.eq_1 @bO.eq_1;unfold CC at h;simp only[ZC,Ef,xt];obtain⟨a,h⟩|⟨a,h⟩:=aq h
 ·obtain⟨m,d,h⟩:=ae h;obtain⟨p,l,h⟩:=ae h;have f:=ZA a (aL d);refine ZF f ?_;have f:=ZA f hC_fZ0.1;refine ZSG f (hf_fZ0 _ _ l) ?_;obtain⟨g,h⟩|⟨g,h⟩:=aq h
  ·cases h;exact ZL (ZA a (ZA (aL d) g)) (ZA @ay.eq_1 (ZA hC_fZ0.2 ((cd hC_fZ0))))
  ·cases h;exact ZL (ZA a (ZA (aL d) g)) (ZA e (ZA hC_fZ0.2 ((cd hC_fZ0))))
 ·cases h;exact ZL a (ZA e (ZA hC_fZ0.2 ((cd hC_fZ0))))
theorem w_gt(a:List (List Int))(c:(List Int)->Option Bool){r:Int}(h:IA a c=some r)(F_fZ0:Nat)(C_fZ0:List AV)(hC_fZ0:lm C_fZ0)(hf_fZ0:∀(x0:List Int)(r:Bool),c x0=some r->Ok Tryz.prog F_fZ0 ((.lst .o 1 (x0.map AV.i))::C_fZ0) (.b r)):Ok Tryz.prog 247 [.lst .o 1 (a.map (bI .o)),.fn F_fZ0 C_fZ0] (.i r):=by
 refine aA bb m247 rfl ?_;unfold IA at h;simp only[ZC,A247,ay,aH];obtain⟨d,g,h⟩:=ae h;try refine ZF trivial ?_
 refine bj (o:=d) (bq cD (aB (w_co a c F_fZ0 C_fZ0 hC_fZ0 hf_fZ0) g ?_)) (fun k hv=>?_) (fun l hv e τ hne hq=>?_)
 ·exact ZK (ZA @Ef.eq_1 (ZA @bO.eq_1 (ZA hC_fZ0.2 ((cd hC_fZ0)))))
 ·subst hv;simp only[] at h;simp only[ZC,bO,Ek];cases h;exact ZL trivial (ZA @ay.eq_1 (ZA hC_fZ0.2 ((cd hC_fZ0))))
 ·subst hv;simp only[] at h;obtain⟨rfl,j⟩:=hq;cases h;exact j
theorem w_gu(a:af)(b:Int){r:Int}(h:Gk a b=some r):Ok Tryz.prog 230 [.agg [.lst .o 1 (a.Nodes.map AV.z),.lst .o 4 (a.Fibers.map (ai .o))],.i b] (.i r):=by
 refine aA bb m230 rfl ?_;unfold Gk at h;simp only[ZC,A230,ay,aH];obtain⟨g,c,h⟩:=ae h;refine ZF trivial ?_;refine ZUG trivial (Pk _ c) ?_;obtain⟨j,d,h⟩:=ae h;refine ZF trivial ?_;refine ZSG trivial (w_gt _ _ d 248 [.bp .o (.i b) 0] ⟨fun ρ k=>by simp only[VS1,VS2,VS3,VS4,VS5,VS6,VT1,VT2,ce,cb,decide_true,decide_false,List.nodup_nil,List.nodup_cons,fe,fl,fh,ne_eq,not_false_eq_true,Int.reduceEq,Int.reduceNe,true_and,false_and,Nat.reduceSub,Nat.reduceMul,↓reduceIte,reduceCtorEq,Nat.reduceEqDiff,Nat.reduceAdd,Nat.reduceLeDiff,Int.reduceLE],by simp[aN,AV.ments]⟩ (fun _ _ h=>w_gs _ _ h)) ?_;cases h;exact ZL trivial @ay.eq_1
def LP(a:af)(b:List Int)(v:Int×List Int):St:=⟨[(2,.pt 2 0 0),(5,.sl 5 0 v.2.length),(9,.lst .o 1 (b.map AV.i)),(10,.i (b.length:Int)),(11,.i v.1)],[(2,.var (.agg [.lst .o 1 (a.Nodes.map AV.z),.lst .o 4 (a.Fibers.map (ai .o))])),(5,.arr 1 (v.2.map AV.i))]⟩
theorem w_cp(c:af)(d:List Int)(a:Int×List Int)(o:(Int×List Int)⊕(List Int))(h:Bm c d a=some o):AWP (OkS Tryz.prog) wJ (qL [2,5,9,10,11] [2,5] (LP c d) (qX 0 [5] [5] (gP)) o) (LP c d a):=by
 have e:=ZA @LP.eq_1 @gP.eq_1;unfold Bm at h;simp only[ZC,LP,wJ];obtain⟨g,h⟩|⟨g,h⟩:=aq h
 ·obtain⟨y,s,h⟩:=ae h;obtain⟨t,u,h⟩:=ae h;have f:=ZA g (aL s);refine ZF f ?_;refine ZSG f (w_gu _ _ u) ?_;obtain⟨j,b,h⟩:=aK h;have v:Row.arr 1 [(.i t:AV)]=Row.arr 1 (j.map AV.i):=by rw[<-b];rfl
  have l:j.length=1:=by rw[<-b];rfl
  obtain⟨z,w,h⟩:=ae h;have m:=aI w;obtain⟨p,k,h⟩:=aK h;have x:a.2.map AV.i++j.map AV.i=p.map AV.i:=by rw[<-k,List.map_append]
  have q:a.2.length+1=p.length:=by simp[<-b,<-k]<;>omega
  rw[q] at m;cases h;exact ZL (ZA f (ZA v (ZA l (ZA m (ZA x q))))) (ZA e (ZA b.symm (ZA k.symm l)))
 ·cases h;exact ZL g e
theorem w_ek(a:af)(b:List Int){r:List Int}(h:AW a b=some r):Ok Tryz.prog 202 [.agg [.lst .o 1 (a.Nodes.map AV.z),.lst .o 4 (a.Fibers.map (ai .o))],.lst .o 1 (b.map AV.i)] (.lst .u 1 (r.map AV.i)):=by
 refine aA bb m202 rfl ?_;unfold AW at h;simp only[ZC,A202,ay,aH];obtain⟨d,c,h⟩:=ae h;try refine ZF trivial ?_
 refine ax (aX (aB (w_cp a b) c ?_)) ?_
 ·exact ZK (ZA @LP.eq_1 @gP.eq_1)
 ·simp only[ZC,gP,HC];cases h;exact ZL trivial @ay.eq_1
theorem w_hu(d:Int){r:Int}(h:VM d=some r):Ok Tryz.prog 259 [.sc (.int .u64 d)] (.i r):=by
 refine aA bb m259 rfl ?_;unfold VM at h;simp only[ZC,A259,V10,aH];obtain⟨g,j,h⟩:=ae h;try refine ZF trivial ?_
 refine ax (sh:=(fun v=>⟨[(0,.sc (.int .u64 v.1)),(2,.i v.2)],[]⟩)) (s:=g) ?_ ?_
 ·replace h:=j;obtain⟨a,h⟩|⟨a,h⟩:=aq h
  ·cases h;exact ZL a trivial
  ·cases h;exact ZL a trivial
 ·simp only[ZC,Gp];obtain⟨k,l,h⟩:=ae h;try refine ZF trivial ?_
  refine ax (sh:=(fun v=>⟨[(0,.sc (.int .u64 v.1)),(2,.i v.2)],[]⟩)) (s:=k) ?_ ?_
  ·replace h:=l;obtain⟨b,h⟩|⟨b,h⟩:=aq h
   ·cases h;exact ZL b trivial
   ·cases h;exact ZL b trivial
  ·simp only[ZC,JJ];obtain⟨m,p,h⟩:=ae h;try refine ZF trivial ?_
   refine ax (sh:=(fun v=>⟨[(0,.sc (.int .u64 v.1)),(2,.i v.2)],[]⟩)) (s:=m) ?_ ?_
   ·replace h:=p;obtain⟨c,h⟩|⟨c,h⟩:=aq h
    ·cases h;exact ZL c trivial
    ·cases h;exact ZL c trivial
   ·simp only[ZC,EZ];obtain⟨t,q,h⟩:=ae h;cases h;exact ZL (jf q) @V10.eq_1
theorem w_fk(a:Int){r:Int}(h:LH a=some r):Ok Tryz.prog 232 [.sc (.int .u64 a)] (.i r):=by
 refine aA bb m232 rfl ?_;unfold LH at h;simp only[ZC,A232,V10,aH];obtain⟨c,b,h⟩:=ae h;refine ZF trivial ?_;refine ZSG trivial (w_hu _ b) ?_;cases h;exact ZL trivial @V10.eq_1
theorem w_fi(d:Int)(g:Int){r:Bool}(h:Jq d g=some r):Ok Tryz.prog 255 [.i d,.i g] (.b r):=by
 refine aA bb m255 rfl ?_;unfold Jq at h;simp only[ZC,A255,ay,aH];obtain⟨l,j,h⟩:=ae h;refine ZF trivial ?_;refine ZSG trivial (QJ _ j) ?_;obtain⟨a,h⟩|⟨a,h⟩:=aq h
 ·obtain⟨m,k,h⟩:=ae h;refine ZF a ?_;refine ZSG a (QJ _ k) ?_;obtain⟨c,h⟩|⟨c,h⟩:=aq h
  ·cases h;exact ZL (ZA a c) @ay.eq_1
  ·cases h;exact ZL (ZA a c) @ay.eq_1
 ·cases h;exact ZL a @ay.eq_1
def S_o(a:Int)(b:Int)(c:Int×List Int)(v:Int×List Int):St:=⟨[(0,.sl 1000000000 0 v.2.length),(1,.i a),(2,.i b),(6,.i c.1),(7,.i v.1)],[(1000000000,.arr 1 (v.2.map AV.i))]⟩
def Nz(a:Int)(b:Int)(c:Int×List Int)(v:List Int):St:=⟨[(0,.sl 1000000000 0 v.length),(1,.i a),(2,.i b),(6,.i c.1)],[(1000000000,.arr 1 (v.map AV.i))]⟩
theorem w_o(c:Int)(d:Int)(g:Int×List Int)(a:Int×List Int)(o:(Int×List Int)⊕(List Int))(h:M_o c a=some o):AWP (OkS Tryz.prog) oH (qL [0,1,2,6,7] [1000000000] (S_o c d g) (qX 2 [0,1,2,6] [1000000000] (Nz c d g)) o) (S_o c d g a):=by
 have e:=ZA @S_o.eq_1 @Nz.eq_1;unfold M_o at h;simp only[ZC,S_o,oH];obtain⟨q,t,h⟩:=ae h;try refine ZF trivial ?_
 refine ax (sh:=(fun v=>⟨[(0,.sl 1000000000 0 a.2.length),(1,.i c),(2,.i d),(6,.i g.1),(7,.i a.1),(30,.b v)],[(1000000000,.arr 1 (a.2.map AV.i))]⟩)) (s:=q) ?_ ?_
 ·replace h:=t;obtain⟨j,h⟩|⟨j,h⟩:=aq h
  ·obtain⟨p1,u,h⟩:=ae h;obtain⟨q1,w,h⟩:=ae h;obtain⟨s1,x,h⟩:=ae h;obtain⟨t1,y,h⟩:=ae h;obtain⟨u1,z,h⟩:=ae h;have f:=ZA j (ZA (aI u) (ZA w (ZA (aI x) y)));refine ZF f ?_;refine ZSG f (w_fi _ _ z) ?_;cases h;exact ZL f trivial
  ·cases h;exact ZL j trivial
 ·simp only[ZC,sV];obtain⟨k,h⟩|⟨k,h⟩:=aq h
  ·obtain⟨v1,a1,h⟩:=ae h;obtain⟨b1,c1,h⟩:=ae h;obtain⟨w1,d1,h⟩:=ae h;obtain⟨g1,i1,h⟩:=ae h;obtain⟨l,m,h⟩:=aK h;have j1:(a.2.map AV.i).set (Int.toNat a.1) (.i b1)=l.map AV.i:=by rw[<-m,List.map_set]
   obtain⟨x1,k1,h⟩:=ae h;obtain⟨l1,p,h⟩:=aK h;have m1:(l.map AV.i).set (Int.toNat (IntKind.wrap .i64 (a.1-1))) (.i g1)=l1.map AV.i:=by rw[<-p,List.map_set]
   cases h;exact ZL (ZA k (ZA (aI a1) (ZA c1 (ZA (aI d1) (ZA i1 (ZA j1 (ZA k1 m1))))))) (ZA e (ZA m.symm p.symm))
  ·cases h;exact ZL k e
def S_x(a:Int)(b:Int)(v:Int×List Int):St:=⟨[(0,.sl 1000000000 0 v.2.length),(1,.i a),(2,.i b),(6,.i v.1)],[(1000000000,.arr 1 (v.2.map AV.i))]⟩
def Ov(v:List Int):St:=⟨[],[(1000000000,.arr 1 (v.map AV.i))]⟩
theorem w_x(a:Int)(b:Int)(c:Int×List Int)(o:(Int×List Int)⊕(List Int))(h:M_x a b c=some o):AWP (OkS Tryz.prog) pD (qL [0,1,2,6] [1000000000] (S_x a b) (qX 0 [] [1000000000] (Ov)) o) (S_x a b c):=by
 have e:=ZA @S_x.eq_1 @Ov.eq_1;unfold M_x at h;simp only[ZC,S_x,pD];obtain⟨d,h⟩|⟨d,h⟩:=aq h
 ·obtain⟨k,l,h⟩:=ae h;try refine ZF d ?_
  refine ax (sh:=(fun v=>⟨[(0,.sl 1000000000 0 v.length),(1,.i a),(2,.i b),(6,.i c.1)],[(1000000000,.arr 1 (v.map AV.i))]⟩)) (s:=k) ?_ ?_
  ·replace h:=l;obtain⟨m,g,h⟩:=ae h;try refine ZF d ?_
   first|refine de (aX (aB (w_o a b c) g ?_)) (fun τ j=>?_)|refine dM (aB (w_o a b c) g ?_) (fun τ j=>?_)
   ·exact ZK (ZA @S_o.eq_1 @Nz.eq_1)
   ·cases h;try refine ZF trivial ?_
    refine⟨rfl,Shp.sub j (by decide) (by decide) ?_⟩;exact ZK @Nz.eq_1
  ·simp only[ZC,ux];cases h;exact ZL d e
 ·cases h;exact ZL d e
theorem w_fj(a:Int)(b:Int)(c:List Int){r:List Int}(h:Gi a b c=some r):OkM Tryz.prog 249 [.sl 1000000000 0 c.length,.i a,.i b] [(1000000000,.arr 1 (c.map AV.i))] (.tup []) ([(1000000000,.arr 1 (r.map AV.i))]):=by
 refine aY (lr:=[1000000000]) bb UN rfl rfl ?_;unfold Gi at h;simp only[ZC,IG,cF];obtain⟨j,d,h⟩:=ae h;try refine ZF trivial ?_
 first|refine de (aX (aB (w_x a b) d ?_)) (fun τ g=>?_)|refine dM (aB (w_x a b) d ?_) (fun τ g=>?_)
 ·exact ZK (ZA @S_x.eq_1 @Ov.eq_1)
 ·cases h;refine pw g (by decide) ?_ rfl;exact ZK (ZA @cF.eq_1 @Ov.eq_1)
def Od(c:Int)(d:Int)(g:Int)(a:List Int)(v:Unit):St:=⟨[(0,.sl 1000000000 0 a.length),(1,.i c),(2,.i d),(3,.i g),(8,.b true),(9,.b true)],[(1000000000,.arr 1 (a.map AV.i))]⟩
def RP(v:Empty):St:=⟨[],[]⟩
theorem w_bo(b:Int)(c:Int)(d:Int)(g:List Int)(j:Unit)(o:Unit⊕(Empty⊕(List Int)))(h:Qv b c d g j=some o):AWP (OkS Tryz.prog) pA (qL [0,1,2,3,8,9] [1000000000] (Od b c d g) (qS (qX 0 [] [] (RP)) (qM cF [1000000000] (fun(r:List Int)=>.tup []) (fun(r:List Int)=>[(1000000000,.arr 1 (r.map AV.i))]))) o) (Od b c d g j):=by
 unfold Qv at h;simp only[ZC,Od,pA];obtain⟨a,h⟩|⟨a,h⟩:=aq h
 ·obtain⟨m,k,h⟩:=ae h;refine ZF a ?_;refine ZWG a (w_fj _ _ _ k) [1000000000] [] ?_;cases h;exact ZL a @cF.eq_1
 ·obtain⟨l,h⟩|⟨l,h⟩:=aq h
  ·cases h
  ·cases h
theorem w_hi(b:Int)(c:Int)(d:Int)(a:List Int){r:List Int}(h:Nt b c d a=some r):OkM Tryz.prog 231 [.sl 1000000000 0 a.length,.i b,.i c,.i d] [(1000000000,.arr 1 (a.map AV.i))] (.tup []) ([(1000000000,.arr 1 (r.map AV.i))]):=by
 refine aY (lr:=[1000000000]) bb TS rfl rfl ?_;unfold Nt at h;simp only[ZC,MB,cF];obtain⟨g,j,h⟩:=ae h;try refine ZF trivial ?_
 first|refine jC (o:=g) (bq nQ (aB (w_bo b c d a) j ?_)) (fun k hv τ l=>?_) (fun m hv e τ hne hq=>?_)|refine nH (o:=g) nQ (aB (w_bo b c d a) j ?_) (fun k hv τ l=>?_) (fun m hv e τ hne hq=>?_)
 ·exact ZK (ZA @Od.eq_1 @RP.eq_1)
 ·exact k.elim
 ·subst hv;simp only[] at h;obtain⟨rfl,p⟩:=hq;cases h;exact p
theorem w_fl(a:List Int){r:List Int}(h:FO a=some r):OkM Tryz.prog 203 [.sl 1000000000 0 a.length] [(1000000000,.arr 1 (a.map AV.i))] (.tup []) ([(1000000000,.arr 1 (r.map AV.i))]):=by
 refine aY (lr:=[1000000000]) bb Vi rfl rfl ?_;unfold FO at h;simp only[ZC,EW,cF];obtain⟨d,b,h⟩:=ae h;refine ZF trivial ?_;refine ZSG trivial (w_fk _ b) ?_;obtain⟨g,c,h⟩:=ae h;refine ZF trivial ?_;refine ZWG trivial (w_hi _ _ _ _ c) [1000000000] [] ?_;cases h;exact ZL trivial @cF.eq_1
def S_w(a:Nat)(b:Nat)(c:Int)(v:Int×Int×List Int):St:=⟨[(0,.sl 1000000000 a b),(3,.i v.1),(4,.sl 1000000000 (a+(Int.toNat c)) (b-(Int.toNat c))),(5,.i v.2.1)],[(1000000000,.arr 1 (v.2.2.map AV.i))]⟩
def PR(a:Nat)(b:Nat)(v:Int×List Int):St:=⟨[(0,.sl 1000000000 a b),(3,.i v.1)],[(1000000000,.arr 1 (v.2.map AV.i))]⟩
theorem w_w(a:Nat)(b:Nat)(g:Int)(c:Int×Int×List Int)(o:(Int×Int×List Int)⊕(Int×List Int))(h:M_w a b g c=some o):AWP (OkS Tryz.prog) oI (qL [0,3,4,5] [1000000000] (S_w a b g) (qX 2 [0,3] [1000000000] (PR a b)) o) (S_w a b g c):=by
 have e:=ZA @S_w.eq_1 @PR.eq_1;unfold M_w at h;simp only[ZC,S_w,oI];obtain⟨d,h⟩|⟨d,h⟩:=aq h
 ·obtain⟨x,k,h⟩:=ae h;obtain⟨s,l,h⟩:=ae h;obtain⟨y,m,h⟩:=ae h;obtain⟨z,p,h⟩:=ae h;obtain⟨j,h⟩|⟨j,h⟩:=aq h
  ·obtain⟨a1,t,h⟩:=ae h;obtain⟨b1,u,h⟩:=ae h;obtain⟨v,q,h⟩:=aK h;have w:(c.2.2.map AV.i).set (a+(Int.toNat c.1)) (.i s)=v.map AV.i:=by rw[<-q,List.map_set]
   cases h;exact ZL (ZA d (ZA (aI k) (ZA l (ZA (aI m) (ZA p (ZA j (ZA (aI t) (ZA u w)))))))) (ZA e q.symm)
  ·cases h;exact ZL (ZA d (ZA (aI k) (ZA l (ZA (aI m) (ZA p j))))) e
 ·cases h;exact ZL d e
def GQ(a:Nat)(b:Nat)(c:List Int)(v:Int):St:=⟨[(0,.sl 1000000000 a b),(3,.i v)],[(1000000000,.arr 1 (c.map AV.i))]⟩
def yO(a:Nat)(b:Nat)(c:List Int)(v:Unit):St:=⟨[(0,.sl 1000000000 a b)],[(1000000000,.arr 1 (c.map AV.i))]⟩
theorem w_ae(a:Nat)(b:Nat)(c:List Int)(j:Int)(o:Int⊕(Unit⊕(Nat×Nat×List Int)))(h:Bv a b c j=some o):AWP (OkS Tryz.prog) oD (qL [0,3] [1000000000] (GQ a b c) (qS (qX 0 [0] [1000000000] (yO a b c)) (qM V10 [1000000000] (fun(r:Nat×Nat×List Int)=>.sl 1000000000 r.1 r.2.1) (fun(r:Nat×Nat×List Int)=>[(1000000000,.arr 1 (r.2.2.map AV.i))]))) o) (GQ a b c j):=by
 have e:=ZA @GQ.eq_1 @yO.eq_1;unfold Bv at h;simp only[ZC,GQ,oD];obtain⟨d,h⟩|⟨d,h⟩:=aq h
 ·obtain⟨a1,l,h⟩:=ae h;obtain⟨b1,m,h⟩:=ae h;obtain⟨c1,p,h⟩:=ae h;obtain⟨d1,q,h⟩:=ae h;obtain⟨k,h⟩|⟨k,h⟩:=aq h
  ·obtain⟨g1,v,h⟩:=ae h;obtain⟨g,w,h⟩:=ae h;have f:=ZA d (ZA (aI l) (ZA m (ZA (aI p) (ZA q (ZA k (aI v))))));try refine ZF f ?_
   refine ax (aX (aB (w_w a b j) w ?_)) ?_
   ·exact ZK (ZA @S_w.eq_1 @PR.eq_1)
   ·simp only[ZC,PR,uU];obtain⟨i1,x,h⟩:=ae h;obtain⟨s,t,h⟩:=aK h;have u:dx (g.2.map AV.i) (a+(Int.toNat g.1)) (List.replicate (b-(Int.toNat g.1)) (.i 0:AV))=s.map AV.i:=by rw[<-t,<-iP]<;>simp[List.map_take]
    try simp only[Int.toNat_natCast] at u
    have y:s.length=g.2.length:=by rw[<-t];exact da _ _ _
    obtain⟨j1,z,h⟩:=ae h;cases h;exact ZL (ZA f (ZA (aI x) (ZA u (aI z)))) (ZA @V10.eq_1 y)
  ·cases h;exact ZL (ZA d (ZA (aI l) (ZA m (ZA (aI p) (ZA q k))))) e
 ·cases h;exact ZL d e
theorem w_fh(b:Nat)(c:Nat)(d:List Int){r:Nat×Nat×List Int}(h:EQ b c d=some r):OkM Tryz.prog 204 [.sl 1000000000 b c] [(1000000000,.arr 1 (d.map AV.i))] (.sl 1000000000 r.1 r.2.1) ([(1000000000,.arr 1 (r.2.2.map AV.i))]):=by
 refine aY (lr:=[1000000000]) bb Tf rfl rfl ?_;unfold EQ at h;simp only[ZC,Gx,V10];obtain⟨a,h⟩|⟨a,h⟩:=aq h
 ·cases h;exact ZL a @V10.eq_1
 ·obtain⟨g,j,h⟩:=ae h;try refine ZF a ?_
  refine bj (o:=g) (bq nQ (aB (w_ae b c d) j ?_)) (fun l hv=>?_) (fun m hv e τ hne hq=>?_)
  ·exact ZK (ZA @GQ.eq_1 @yO.eq_1)
  ·subst hv;simp only[] at h;simp only[ZC,yO,uZ];cases h;exact ZL a @V10.eq_1
  ·subst hv;simp only[] at h;obtain⟨rfl,k⟩:=hq;cases h;exact k
def Es(a:List Int)(b:List Int)(v:Int×List Int):St:=⟨[(1,.lst .o 1 (b.map AV.i)),(5,.sl 5 0 v.2.length),(9,.lst .o 1 (a.map AV.i)),(10,.i (a.length:Int)),(11,.i v.1)],[(5,.arr 1 (v.2.map AV.i))]⟩
theorem w_bn(c:List Int)(d:List Int)(a:Int×List Int)(o:(Int×List Int)⊕(List Int))(h:wY c d a=some o):AWP (OkS Tryz.prog) xm (qL [1,5,9,10,11] [5] (Es c d) (qX 0 [5] [5] (gP)) o) (Es c d a):=by
 have e:=ZA @Es.eq_1 @gP.eq_1;unfold wY at h;simp only[ZC,Es,xm];obtain⟨g,h⟩|⟨g,h⟩:=aq h
 ·obtain⟨t,u,h⟩:=ae h;obtain⟨z,v,h⟩:=ae h;have f:=ZA g (aL u);refine ZF f ?_;refine ZSG f (SW _ _ v) ?_;obtain⟨j,h⟩|⟨j,h⟩:=aq h
  ·obtain⟨k,b,h⟩:=aK h;have w:Row.arr 1 [(.i t:AV)]=Row.arr 1 (k.map AV.i):=by rw[<-b];rfl
   have m:k.length=1:=by rw[<-b];rfl
   obtain⟨a1,x,h⟩:=ae h;have p:=aI x;obtain⟨q,l,h⟩:=aK h;have y:a.2.map AV.i++k.map AV.i=q.map AV.i:=by rw[<-l,List.map_append]
   have s:a.2.length+1=q.length:=by simp[<-b,<-l]<;>omega
   rw[s] at p;cases h;exact ZL (ZA f (ZA j (ZA w (ZA m (ZA p (ZA y s)))))) (ZA e (ZA b.symm (ZA l.symm m)))
  ·cases h;exact ZL (ZA f j) e
 ·cases h;exact ZL g e
theorem OV(a:List Int)(b:List Int){r:List Int}(h:tl a b=some r):Ok Tryz.prog 140 [.lst .o 1 (a.map AV.i),.lst .o 1 (b.map AV.i)] (.lst .u 1 (r.map AV.i)):=by
 refine aA bb m140 rfl ?_;unfold tl at h;simp only[ZC,A140,ay,aH];obtain⟨p,d,h⟩:=ae h;try refine ZF trivial ?_
 refine ax (aX (aB (w_bn a b) d ?_)) ?_
 ·exact ZK (ZA @Es.eq_1 @gP.eq_1)
 ·simp only[ZC,gP,IY];obtain⟨q,g,h⟩:=ae h;refine ZF trivial ?_;refine ZWG trivial (w_fl _ g) [1000000000] [] ?_;obtain⟨c,j,h⟩:=ae h;refine ZF trivial ?_;refine ZWG trivial (w_fh _ _ _ j) [1000000000] [] ?_;obtain⟨k,l,h⟩:=aK h;have m:sub (c.2.2.map AV.i) c.1 c.2.1=k.map AV.i:=by rw[bD,l]
  cases h;exact ZL m @ay.eq_1
theorem w_el(a:af)(c:List Int)(d:List Int){r:Bool}(h:AB a c d=some r):Ok Tryz.prog 136 [.agg [.lst .o 1 (a.Nodes.map AV.z),.lst .o 4 (a.Fibers.map (ai .o))],.lst .o 1 (c.map AV.i),.lst .o 1 (d.map AV.i)] (.b r):=by
 refine aA bb m136 rfl ?_;unfold AB at h;simp only[ZC,A136,bJ,aH];obtain⟨l,g,h⟩:=ae h;refine ZF trivial ?_;refine ZUG trivial (w_ek _ _ g) ?_;obtain⟨m,j,h⟩:=ae h;refine ZF trivial ?_;refine ZUG trivial (w_ek _ _ j) ?_;obtain⟨p,k,h⟩:=ae h;refine ZF trivial ?_;refine ZUG trivial (OV _ _ k) ?_;cases h;exact ZL trivial @bJ.eq_1
theorem w_gv(d:af)(a:ah){r:Bool}(h:Mh d a=some r):Ok Tryz.prog 94 [.agg [.lst .o 1 (d.Nodes.map AV.z),.lst .o 4 (d.Fibers.map (ai .o))],.agg [.i a.Id,.i a.Class,.i a.Work.Start,.lst .o 1 (a.Work.Fibers.map AV.i),.i a.WorkBlock.First,.i a.WorkBlock.Count,.i a.Spare.Start,.lst .o 1 (a.Spare.Fibers.map AV.i),.i a.SpareBlock.First,.i a.SpareBlock.Count]] (.b r):=by
 have e:=@ay.eq_1;refine aA bb m94 rfl ?_;unfold Mh at h;simp only[ZC,A94,ay,aH];obtain⟨c1,k1,h⟩:=ae h;refine ZF trivial ?_;refine ZUG trivial (w_ei _ _ k1) ?_;obtain⟨l1,m1,h⟩:=ae h;try refine ZF trivial ?_
 refine ax (sh:=(fun v=>⟨[(2,.pt 2 0 0),(3,.pt 3 0 0),(5,.sl 5 0 c1.1.length),(35,.b v)],[(2,.var (.agg [.lst .o 1 (d.Nodes.map AV.z),.lst .o 4 (d.Fibers.map (ai .o))])),(3,.var (.agg [.i a.Id,.i a.Class,.i a.Work.Start,.lst .o 1 (a.Work.Fibers.map AV.i),.i a.WorkBlock.First,.i a.WorkBlock.Count,.i a.Spare.Start,.lst .o 1 (a.Spare.Fibers.map AV.i),.i a.SpareBlock.First,.i a.SpareBlock.Count])),(5,.arr 1 (c1.1.map AV.i))]⟩)) (s:=l1) ?_ ?_
 ·replace h:=m1;obtain⟨y1,p1,h⟩:=ae h;refine ZF trivial ?_;refine ZSG trivial (w_h _ _ _ p1) ?_;obtain⟨c,h⟩|⟨c,h⟩:=aq h
  ·cases h;exact ZL c trivial
  ·obtain⟨z1,q1,h⟩:=ae h;refine ZF c ?_;refine ZSG c (w_h _ _ _ q1) ?_;obtain⟨j,h⟩|⟨j,h⟩:=aq h
   ·cases h;exact ZL (ZA c j) trivial
   ·obtain⟨p,h⟩|⟨p,h⟩:=aq h
    ·cases h;exact ZL (ZA c (ZA j p)) trivial
    ·obtain⟨a2,s1,h⟩:=ae h;have f:=ZA c (ZA j p);refine ZF f ?_;refine ZSG f (w_ej _ s1) ?_;cases h;exact ZL f trivial
 ·simp only[ZC,Sr];obtain⟨k,h⟩|⟨k,h⟩:=aq h
  ·cases h;exact ZL k e
  ·obtain⟨q,h⟩|⟨q,h⟩:=aq h
   ·obtain⟨t1,u1,h⟩:=ae h;have f:=ZA k q;try refine ZF f ?_
    refine ax (sh:=(fun v=>⟨[(4,.b v)],[]⟩)) (s:=t1) ?_ ?_
    ·replace h:=u1;obtain⟨l,h⟩|⟨l,h⟩:=aq h
     ·obtain⟨t,h⟩|⟨t,h⟩:=aq h
      ·cases h;exact ZL (ZA f (ZA l t)) trivial
      ·cases h;exact ZL (ZA f (ZA l t)) trivial
     ·cases h;exact ZL (ZA f l) trivial
    ·simp only[ZC,RM];cases h;exact ZL f e
   ·obtain⟨b2,v1,h⟩:=ae h;have f:=ZA k q;refine ZF f ?_;refine ZUG f (w_ei _ _ v1) ?_;obtain⟨u,h⟩|⟨u,h⟩:=aq h
    ·obtain⟨c2,w1,h⟩:=ae h;have f:=ZA f u;refine ZF f ?_;refine ZSG f (w_ej _ w1) ?_;obtain⟨g,h⟩|⟨g,h⟩:=aq h
     ·obtain⟨d2,w,h⟩:=ae h;obtain⟨g2,x,h⟩:=ae h;obtain⟨i2,y,h⟩:=ae h;obtain⟨j2,a1,h⟩:=ae h;obtain⟨m,h⟩|⟨m,h⟩:=aq h
      ·obtain⟨k2,d1,h⟩:=ae h;obtain⟨l2,g1,h⟩:=ae h;obtain⟨m2,i1,h⟩:=ae h;obtain⟨p2,j1,h⟩:=ae h;obtain⟨b1,h⟩|⟨b1,h⟩:=aq h
       ·obtain⟨q2,x1,h⟩:=ae h;have f:=ZA f (ZA g (ZA (aI w) (ZA x (ZA (aI y) (ZA a1 (ZA m (ZA (aI d1) (ZA g1 (ZA (aI i1) (ZA j1 b1))))))))));refine ZF f ?_;refine ZSG f (w_el _ _ _ x1) ?_;cases h;exact ZL f e
       ·cases h;exact ZL (ZA f (ZA g (ZA (aI w) (ZA x (ZA (aI y) (ZA a1 (ZA m (ZA (aI d1) (ZA g1 (ZA (aI i1) (ZA j1 b1))))))))))) e
      ·cases h;exact ZL (ZA f (ZA g (ZA (aI w) (ZA x (ZA (aI y) (ZA a1 m)))))) e
     ·cases h;exact ZL (ZA f g) e
    ·cases h;exact ZL (ZA f u) e
theorem w_em(a:aM){r:Int}(h:DD a=some r):Ok Tryz.prog 69 [.agg [.i a.First,.i a.Count]] (.i r):=by
 refine aA bb m69 rfl ?_;unfold DD at h;simp only[ZC,A69,V10,aH];obtain⟨d,b,h⟩:=ae h;obtain⟨g,c,h⟩:=ae h;cases h;exact ZL (ZA (aI b) (aI c)) @V10.eq_1
theorem w_hq(a:cg)(c:cg){r:Bool}(h:NM a c=some r):Ok Tryz.prog 205 [.agg [.i a.Id,.i a.Route.Start,.lst .o 1 (a.Route.Fibers.map AV.i),.i a.Block.First,.i a.Block.Count],.agg [.i c.Id,.i c.Route.Start,.lst .o 1 (c.Route.Fibers.map AV.i),.i c.Block.First,.i c.Block.Count]] (.b r):=by
 refine aA bb m205 rfl ?_;unfold NM at h;simp only[ZC,A205,ay,aH];obtain⟨l,g,h⟩:=ae h;refine ZF trivial ?_;refine ZSG trivial (w_em _ g) ?_;obtain⟨m,j,h⟩:=ae h;refine ZF trivial ?_;refine ZSG trivial (w_em _ j) ?_;obtain⟨d,h⟩|⟨d,h⟩:=aq h
 ·obtain⟨p,k,h⟩:=ae h;refine ZF d ?_;refine ZUG d (OV _ _ k) ?_;cases h;exact ZL d @ay.eq_1
 ·cases h;exact ZL d @ay.eq_1
theorem MY(a:au)(c:aM)(d:au)(g:aM){r:Bool}(h:rS a c d g=some r):Ok Tryz.prog 142 [.agg [.i a.Start,.lst .o 1 (a.Fibers.map AV.i)],.agg [.i c.First,.i c.Count],.agg [.i d.Start,.lst .o 1 (d.Fibers.map AV.i)],.agg [.i g.First,.i g.Count]] (.b r):=by
 refine aA bb m142 rfl ?_;unfold rS at h;simp only[ZC,A142,gU,aH];obtain⟨k,j,h⟩:=ae h;refine ZF trivial ?_;refine ZSG trivial (w_hq _ _ j) ?_;cases h;exact ZL trivial @gU.eq_1
theorem w_gw(j:af)(a:ah)(c:ah){r:Bool}(h:Jr j a c=some r):Ok Tryz.prog 97 [.agg [.lst .o 1 (j.Nodes.map AV.z),.lst .o 4 (j.Fibers.map (ai .o))],.agg [.i a.Id,.i a.Class,.i a.Work.Start,.lst .o 1 (a.Work.Fibers.map AV.i),.i a.WorkBlock.First,.i a.WorkBlock.Count,.i a.Spare.Start,.lst .o 1 (a.Spare.Fibers.map AV.i),.i a.SpareBlock.First,.i a.SpareBlock.Count],.agg [.i c.Id,.i c.Class,.i c.Work.Start,.lst .o 1 (c.Work.Fibers.map AV.i),.i c.WorkBlock.First,.i c.WorkBlock.Count,.i c.Spare.Start,.lst .o 1 (c.Spare.Fibers.map AV.i),.i c.SpareBlock.First,.i c.SpareBlock.Count]] (.b r):=by
 refine aA bb m97 rfl ?_;unfold Jr at h;simp only[ZC,A97,bJ,aH];obtain⟨q,t,h⟩:=ae h;try refine ZF trivial ?_
 refine ax (sh:=(fun v=>⟨[(3,.pt 3 0 0),(4,.pt 4 0 0),(5,.pt 5 0 0),(38,.b v)],[(3,.var (.agg [.lst .o 1 (j.Nodes.map AV.z),.lst .o 4 (j.Fibers.map (ai .o))])),(4,.var (.agg [.i a.Id,.i a.Class,.i a.Work.Start,.lst .o 1 (a.Work.Fibers.map AV.i),.i a.WorkBlock.First,.i a.WorkBlock.Count,.i a.Spare.Start,.lst .o 1 (a.Spare.Fibers.map AV.i),.i a.SpareBlock.First,.i a.SpareBlock.Count])),(5,.var (.agg [.i c.Id,.i c.Class,.i c.Work.Start,.lst .o 1 (c.Work.Fibers.map AV.i),.i c.WorkBlock.First,.i c.WorkBlock.Count,.i c.Spare.Start,.lst .o 1 (c.Spare.Fibers.map AV.i),.i c.SpareBlock.First,.i c.SpareBlock.Count]))]⟩)) (s:=q) ?_ ?_
 ·replace h:=t;obtain⟨d1,u,h⟩:=ae h;refine ZF trivial ?_;refine ZSG trivial (MY _ _ _ _ u) ?_;obtain⟨g,h⟩|⟨g,h⟩:=aq h
  ·cases h;exact ZL g trivial
  ·obtain⟨g1,w,h⟩:=ae h;refine ZF g ?_;refine ZSG g (MY _ _ _ _ w) ?_;obtain⟨l,h⟩|⟨l,h⟩:=aq h
   ·cases h;exact ZL (ZA g l) trivial
   ·obtain⟨i1,x,h⟩:=ae h;have f:=ZA g l;refine ZF f ?_;refine ZSG f (MY _ _ _ _ x) ?_;cases h;exact ZL f trivial
 ·simp only[ZC,Sv];obtain⟨d,h⟩|⟨d,h⟩:=aq h
  ·cases h;exact ZL d @bJ.eq_1
  ·obtain⟨y,a1,h⟩:=ae h;try refine ZF d ?_
   refine ax (sh:=(fun v=>⟨[(4,.pt 4 0 0),(5,.pt 5 0 0),(7,.b v)],[(4,.var (.agg [.i a.Id,.i a.Class,.i a.Work.Start,.lst .o 1 (a.Work.Fibers.map AV.i),.i a.WorkBlock.First,.i a.WorkBlock.Count,.i a.Spare.Start,.lst .o 1 (a.Spare.Fibers.map AV.i),.i a.SpareBlock.First,.i a.SpareBlock.Count])),(5,.var (.agg [.i c.Id,.i c.Class,.i c.Work.Start,.lst .o 1 (c.Work.Fibers.map AV.i),.i c.WorkBlock.First,.i c.WorkBlock.Count,.i c.Spare.Start,.lst .o 1 (c.Spare.Fibers.map AV.i),.i c.SpareBlock.First,.i c.SpareBlock.Count]))]⟩)) (s:=y) ?_ ?_
   ·replace h:=a1;obtain⟨k,h⟩|⟨k,h⟩:=aq h
    ·obtain⟨m,h⟩|⟨m,h⟩:=aq h
     ·obtain⟨j1,b1,h⟩:=ae h;have f:=ZA d (ZA k m);refine ZF f ?_;refine ZSG f (w_el _ _ _ b1) ?_;cases h;exact ZL f trivial
     ·cases h;exact ZL (ZA d (ZA k m)) trivial
    ·cases h;exact ZL (ZA d k) trivial
   ·simp only[ZC,RC];obtain⟨p,h⟩|⟨p,h⟩:=aq h
    ·cases h;exact ZL (ZA d p) @bJ.eq_1
    ·obtain⟨k1,c1,h⟩:=ae h;have f:=ZA d p;refine ZF f ?_;refine ZSG f (MY _ _ _ _ c1) ?_;cases h;exact ZL f @bJ.eq_1
theorem w_en(a:ah)(p1Z0:af)(p2Z0:ah){r:Bool}(h:Dr a p1Z0 p2Z0=some r):Ok Tryz.prog 96 [.agg [.i a.Id,.i a.Class,.i a.Work.Start,.lst .o 1 (a.Work.Fibers.map AV.i),.i a.WorkBlock.First,.i a.WorkBlock.Count,.i a.Spare.Start,.lst .o 1 (a.Spare.Fibers.map AV.i),.i a.SpareBlock.First,.i a.SpareBlock.Count],.bp .o (.agg [.lst .o 1 (p1Z0.Nodes.map AV.z),.lst .o 4 (p1Z0.Fibers.map (ai .o))]) 0,.bp .o (.agg [.i p2Z0.Id,.i p2Z0.Class,.i p2Z0.Work.Start,.lst .o 1 (p2Z0.Work.Fibers.map AV.i),.i p2Z0.WorkBlock.First,.i p2Z0.WorkBlock.Count,.i p2Z0.Spare.Start,.lst .o 1 (p2Z0.Spare.Fibers.map AV.i),.i p2Z0.SpareBlock.First,.i p2Z0.SpareBlock.Count]) 0] (.b r):=by
 refine aA bb m96 rfl ?_;unfold Dr at h;simp only[ZC,A96,ay,aH];obtain⟨d,c,h⟩:=ae h;refine ZF trivial ?_;refine ZSG trivial (w_gw _ _ _ c) ?_;cases h;exact ZL trivial @ay.eq_1
def MA(a:List ah)(F_fZ0:Nat)(C_fZ0:List AV)(v:Int):St:=⟨[(0,.lst .o 10 (a.map (aj .o))),(1,.fn F_fZ0 C_fZ0),(7,.i (a.length:Int)),(8,.i v)],[]⟩
theorem w_cq(c:List ah)(j:ah->Option Bool)(F_fZ0:Nat)(C_fZ0:List AV)(hC_fZ0:lm C_fZ0)(hf_fZ0:∀(x0:ah)(r:Bool),j x0=some r->Ok Tryz.prog F_fZ0 ((.agg [.i x0.Id,.i x0.Class,.i x0.Work.Start,.lst .o 1 (x0.Work.Fibers.map AV.i),.i x0.WorkBlock.First,.i x0.WorkBlock.Count,.i x0.Spare.Start,.lst .o 1 (x0.Spare.Fibers.map AV.i),.i x0.SpareBlock.First,.i x0.SpareBlock.Count])::C_fZ0) (.b r))(k:Int)(o:Int⊕(Unit⊕Int))(h:CJ c j k=some o):AWP (OkS Tryz.prog) GV (qL [0,1,7,8] [] (MA c F_fZ0 C_fZ0) (qS (qX 0 [] [] (bO)) (qR ay (fun r=>.i r))) o) (MA c F_fZ0 C_fZ0 k):=by
 have e:=ZA @MA.eq_1 @bO.eq_1;unfold CJ at h;simp only[ZC,MA,GV];obtain⟨a,h⟩|⟨a,h⟩:=aq h
 ·obtain⟨m,d,h⟩:=ae h;obtain⟨p,l,h⟩:=ae h;have f:=ZA a (aL d);refine ZF f ?_;have f:=ZA f hC_fZ0.1;refine ZSG f (hf_fZ0 _ _ l) ?_;obtain⟨g,h⟩|⟨g,h⟩:=aq h
  ·cases h;exact ZL (ZA a (ZA (aL d) g)) (ZA @ay.eq_1 (ZA hC_fZ0.2 ((cd hC_fZ0))))
  ·cases h;exact ZL (ZA a (ZA (aL d) g)) (ZA e (ZA hC_fZ0.2 ((cd hC_fZ0))))
 ·cases h;exact ZL a (ZA e (ZA hC_fZ0.2 ((cd hC_fZ0))))
theorem w_hr(a:List ah)(c:ah->Option Bool){r:Int}(h:Rc a c=some r)(F_fZ0:Nat)(C_fZ0:List AV)(hC_fZ0:lm C_fZ0)(hf_fZ0:∀(x0:ah)(r:Bool),c x0=some r->Ok Tryz.prog F_fZ0 ((.agg [.i x0.Id,.i x0.Class,.i x0.Work.Start,.lst .o 1 (x0.Work.Fibers.map AV.i),.i x0.WorkBlock.First,.i x0.WorkBlock.Count,.i x0.Spare.Start,.lst .o 1 (x0.Spare.Fibers.map AV.i),.i x0.SpareBlock.First,.i x0.SpareBlock.Count])::C_fZ0) (.b r)):Ok Tryz.prog 98 [.lst .o 10 (a.map (aj .o)),.fn F_fZ0 C_fZ0] (.i r):=by
 refine aA bb m98 rfl ?_;unfold Rc at h;simp only[ZC,A98,ay,aH];obtain⟨d,g,h⟩:=ae h;try refine ZF trivial ?_
 refine bj (o:=d) (bq cD (aB (w_cq a c F_fZ0 C_fZ0 hC_fZ0 hf_fZ0) g ?_)) (fun k hv=>?_) (fun l hv e τ hne hq=>?_)
 ·exact ZK (ZA @MA.eq_1 (ZA @bO.eq_1 (ZA hC_fZ0.2 ((cd hC_fZ0)))))
 ·subst hv;simp only[] at h;simp only[ZC,bO,Rg];cases h;exact ZL trivial (ZA @ay.eq_1 (ZA hC_fZ0.2 ((cd hC_fZ0))))
 ·subst hv;simp only[] at h;obtain⟨rfl,j⟩:=hq;cases h;exact j
theorem UG(a:List ah)(c:ah->Option Bool){r:Bool}(h:rE a c=some r)(F_fZ0:Nat)(C_fZ0:List AV)(hC_fZ0:lm C_fZ0)(hf_fZ0:∀(x0:ah)(r:Bool),c x0=some r->Ok Tryz.prog F_fZ0 ((.agg [.i x0.Id,.i x0.Class,.i x0.Work.Start,.lst .o 1 (x0.Work.Fibers.map AV.i),.i x0.WorkBlock.First,.i x0.WorkBlock.Count,.i x0.Spare.Start,.lst .o 1 (x0.Spare.Fibers.map AV.i),.i x0.SpareBlock.First,.i x0.SpareBlock.Count])::C_fZ0) (.b r)):Ok Tryz.prog 95 [.lst .o 10 (a.map (aj .o)),.fn F_fZ0 C_fZ0] (.b r):=by
 refine aA bb m95 rfl ?_;unfold rE at h;simp only[ZC,A95,ay,aH];obtain⟨g,d,h⟩:=ae h;refine ZF trivial ?_;refine ZSG hC_fZ0.1 (w_hr _ _ d F_fZ0 C_fZ0 hC_fZ0 hf_fZ0) ?_;cases h;exact ZL trivial (ZA @ay.eq_1 (ZA hC_fZ0.2 ((cd hC_fZ0))))
def xC(b:af)(a:List ah)(v:Int):St:=⟨[(1,.lst .o 10 (a.map (aj .o))),(2,.pt 2 0 0),(15,.lst .o 10 (a.map (aj .o))),(16,.i (a.length:Int)),(17,.i v)],[(2,.var (.agg [.lst .o 1 (b.Nodes.map AV.z),.lst .o 4 (b.Fibers.map (ai .o))]))]⟩
theorem w_bl(c:af)(j:List ah)(s:Int)(o:Int⊕(Unit⊕Bool))(h:Dy c j s=some o):AWP (OkS Tryz.prog) JB (qL [1,2,15,16,17] [2] (xC c j) (qS (qX 0 [] [] (bO)) (qR ay (fun r=>.b r))) o) (xC c j s):=by
 unfold Dy at h;simp only[ZC,xC,JB];obtain⟨l,h⟩|⟨l,h⟩:=aq h
 ·obtain⟨a,u,h⟩:=ae h;obtain⟨q1,v,h⟩:=ae h;have f:=ZA l (aL u);refine ZF f ?_;refine ZSG f (w_gv _ _ v) ?_;obtain⟨d,h⟩|⟨d,h⟩:=aq h
  ·cases h;exact ZL (ZA f d) @ay.eq_1
  ·obtain⟨g,h⟩|⟨g,h⟩:=aq h
   ·obtain⟨s1,t,h⟩:=ae h;obtain⟨m,h⟩|⟨m,h⟩:=aq h
    ·cases h;exact ZL (ZA f (ZA d (ZA g (ZA (aL t) m)))) @ay.eq_1
    ·obtain⟨t1,w,h⟩:=ae h;obtain⟨x,y,a1,b1,c1⟩:=yl (aj .o) w;obtain⟨u1,d1,h⟩:=ae h;have f:=ZA f (ZA d (ZA g (ZA (aL t) (ZA m (ZA x (ZA y (ZA a1 (ZA b1 c1))))))));refine ZF f ?_;refine ZSG f (UG _ _ d1 96 [.bp .o (.agg [.lst .o 1 (c.Nodes.map AV.z),.lst .o 4 (c.Fibers.map (ai .o))]) 0,.bp .o (.agg [.i a.Id,.i a.Class,.i a.Work.Start,.lst .o 1 (a.Work.Fibers.map AV.i),.i a.WorkBlock.First,.i a.WorkBlock.Count,.i a.Spare.Start,.lst .o 1 (a.Spare.Fibers.map AV.i),.i a.SpareBlock.First,.i a.SpareBlock.Count]) 0] ⟨fun ρ k=>by simp only[VS1,VS2,VS3,VS4,VS5,VS6,VT1,VT2,ce,cb,decide_true,decide_false,List.nodup_nil,List.nodup_cons,fe,fl,fh,ne_eq,not_false_eq_true,Int.reduceEq,Int.reduceNe,true_and,false_and,Nat.reduceSub,Nat.reduceMul,↓reduceIte,reduceCtorEq,Nat.reduceEqDiff,Nat.reduceAdd,Nat.reduceLeDiff,Int.reduceLE],by simp[aN,AV.ments]⟩ (fun _ _ h=>w_en _ _ _ h)) ?_;obtain⟨p,h⟩|⟨p,h⟩:=aq h
     ·cases h;exact ZL (ZA f p) @ay.eq_1
     ·cases h;exact ZL (ZA f p) (ZA @xC.eq_1 @bO.eq_1)
   ·obtain⟨v1,g1,h⟩:=ae h;obtain⟨i1,j1,k1,l1,m1⟩:=yl (aj .o) g1;obtain⟨w1,p1,h⟩:=ae h;have f:=ZA f (ZA d (ZA g (ZA i1 (ZA j1 (ZA k1 (ZA l1 m1))))));refine ZF f ?_;refine ZSG f (UG _ _ p1 96 [.bp .o (.agg [.lst .o 1 (c.Nodes.map AV.z),.lst .o 4 (c.Fibers.map (ai .o))]) 0,.bp .o (.agg [.i a.Id,.i a.Class,.i a.Work.Start,.lst .o 1 (a.Work.Fibers.map AV.i),.i a.WorkBlock.First,.i a.WorkBlock.Count,.i a.Spare.Start,.lst .o 1 (a.Spare.Fibers.map AV.i),.i a.SpareBlock.First,.i a.SpareBlock.Count]) 0] ⟨fun ρ k=>by simp only[VS1,VS2,VS3,VS4,VS5,VS6,VT1,VT2,ce,cb,decide_true,decide_false,List.nodup_nil,List.nodup_cons,fe,fl,fh,ne_eq,not_false_eq_true,Int.reduceEq,Int.reduceNe,true_and,false_and,Nat.reduceSub,Nat.reduceMul,↓reduceIte,reduceCtorEq,Nat.reduceEqDiff,Nat.reduceAdd,Nat.reduceLeDiff,Int.reduceLE],by simp[aN,AV.ments]⟩ (fun _ _ h=>w_en _ _ _ h)) ?_;obtain⟨q,h⟩|⟨q,h⟩:=aq h
    ·cases h;exact ZL (ZA f q) @ay.eq_1
    ·cases h;exact ZL (ZA f q) (ZA @xC.eq_1 @bO.eq_1)
 ·cases h;exact ZL l (ZA @xC.eq_1 @bO.eq_1)
theorem w_eo(a:af)(c:List ah){r:Bool}(h:CZ a c=some r):Ok Tryz.prog 24 [.agg [.lst .o 1 (a.Nodes.map AV.z),.lst .o 4 (a.Fibers.map (ai .o))],.lst .o 10 (c.map (aj .o))] (.b r):=by
 refine aA bb m24 rfl ?_;unfold CZ at h;simp only[ZC,A24,ay,aH];obtain⟨i,j,h⟩:=ae h;try refine ZF trivial ?_
 refine ax (sh:=(fun v=>⟨[(1,.lst .o 10 (c.map (aj .o))),(2,.pt 2 0 0),(14,.b v)],[(2,.var (.agg [.lst .o 1 (a.Nodes.map AV.z),.lst .o 4 (a.Fibers.map (ai .o))]))]⟩)) (s:=i) ?_ ?_
 ·replace h:=j;obtain⟨q,k,h⟩:=ae h;refine ZF trivial ?_;refine ZSG trivial (w_fp _ k) ?_;obtain⟨g,h⟩|⟨g,h⟩:=aq h
  ·cases h;exact ZL g trivial
  ·cases h;exact ZL g trivial
 ·simp only[ZC,Sz];obtain⟨d,h⟩|⟨d,h⟩:=aq h
  ·cases h;exact ZL d @ay.eq_1
  ·obtain⟨l,m,h⟩:=ae h;try refine ZF d ?_
   refine bj (o:=l) (bq cD (aB (w_bl a c) m ?_)) (fun t hv=>?_) (fun u hv e τ hne hq=>?_)
   ·exact ZK (ZA @xC.eq_1 @bO.eq_1)
   ·subst hv;simp only[] at h;simp only[ZC,bO,RZ];cases h;exact ZL d @ay.eq_1
   ·subst hv;simp only[] at h;obtain⟨rfl,p⟩:=hq;cases h;exact p
def LF(a:List Int)(b:Int)(v:Int):St:=⟨[(0,.lst .o 1 (a.map AV.i)),(1,.i b),(7,.lst .o 1 (a.map AV.i)),(8,.i (a.length:Int)),(9,.i v)],[]⟩
theorem w_bz(d:List Int)(g:Int)(k:Int)(o:Int⊕(Unit⊕Bool))(h:An d g k=some o):AWP (OkS Tryz.prog) xc (qL [0,1,7,8,9] [] (LF d g) (qS (qX 0 [] [] (bO)) (qR ay (fun r=>.b r))) o) (LF d g k):=by
 have e:=ZA @LF.eq_1 @bO.eq_1;unfold An at h;simp only[ZC,LF,xc];obtain⟨i,h⟩|⟨i,h⟩:=aq h
 ·obtain⟨q,m,h⟩:=ae h;obtain⟨s,p,h⟩:=ae h;have f:=ZA i (aL m);refine ZF f ?_;refine ZSG f (w_h _ _ _ p) ?_;obtain⟨a,h⟩|⟨a,h⟩:=aq h
  ·cases h;exact ZL (ZA f a) @ay.eq_1
  ·obtain⟨c,h⟩|⟨c,h⟩:=aq h
   ·obtain⟨t,l,h⟩:=ae h;obtain⟨j,h⟩|⟨j,h⟩:=aq h
    ·cases h;exact ZL (ZA f (ZA a (ZA c (ZA (aL l) j)))) @ay.eq_1
    ·cases h;exact ZL (ZA f (ZA a (ZA c (ZA (aL l) j)))) e
   ·cases h;exact ZL (ZA f (ZA a c)) e
 ·cases h;exact ZL i e
theorem w_fc(a:List Int)(c:Int){r:Bool}(h:FN a c=some r):Ok Tryz.prog 138 [.lst .o 1 (a.map AV.i),.i c] (.b r):=by
 refine aA bb m138 rfl ?_;unfold FN at h;simp only[ZC,A138,ay,aH];obtain⟨d,g,h⟩:=ae h;try refine ZF trivial ?_
 refine bj (o:=d) (bq cD (aB (w_bz a c) g ?_)) (fun k hv=>?_) (fun l hv e τ hne hq=>?_)
 ·exact ZK (ZA @LF.eq_1 @bO.eq_1)
 ·subst hv;simp only[] at h;simp only[ZC,bO,Ew];cases h;exact ZL trivial @ay.eq_1
 ·subst hv;simp only[] at h;obtain⟨rfl,j⟩:=hq;cases h;exact j
theorem w_dt(c:af)(d:List ah)(g:List Int){r:Bool}(h:Dd c d g=some r):Ok Tryz.prog 65 [.agg [.lst .o 1 (c.Nodes.map AV.z),.lst .o 4 (c.Fibers.map (ai .o))],.lst .o 10 (d.map (aj .o)),.lst .o 1 (g.map AV.i)] (.b r):=by
 refine aA bb m65 rfl ?_;unfold Dd at h;simp only[ZC,A65,bJ,aH];obtain⟨m,j,h⟩:=ae h;refine ZF trivial ?_;refine ZSG trivial (w_eo _ _ j) ?_;obtain⟨a,h⟩|⟨a,h⟩:=aq h
 ·obtain⟨p,k,h⟩:=ae h;refine ZF a ?_;refine ZUG a (Pk _ k) ?_;obtain⟨q,l,h⟩:=ae h;refine ZF a ?_;refine ZSG a (w_fc _ _ l) ?_;cases h;exact ZL a @bJ.eq_1
 ·cases h;exact ZL a @bJ.eq_1
def FV(a:List Int)(F_fZ0:Nat)(C_fZ0:List AV)(v:Int):St:=⟨[(0,.lst .o 1 (a.map AV.i)),(1,.fn F_fZ0 C_fZ0),(7,.i (a.length:Int)),(8,.i v)],[]⟩
theorem w_cd(c:List Int)(j:Int->Option Bool)(F_fZ0:Nat)(C_fZ0:List AV)(hC_fZ0:lm C_fZ0)(hf_fZ0:∀(x0:Int)(r:Bool),j x0=some r->Ok Tryz.prog F_fZ0 ((.i x0)::C_fZ0) (.b r))(k:Int)(o:Int⊕(Unit⊕Int))(h:Cq c j k=some o):AWP (OkS Tryz.prog) wQ (qL [0,1,7,8] [] (FV c F_fZ0 C_fZ0) (qS (qX 0 [] [] (bO)) (qR ay (fun r=>.i r))) o) (FV c F_fZ0 C_fZ0 k):=by
 have e:=ZA @FV.eq_1 @bO.eq_1;unfold Cq at h;simp only[ZC,FV,wQ];obtain⟨a,h⟩|⟨a,h⟩:=aq h
 ·obtain⟨m,d,h⟩:=ae h;obtain⟨p,l,h⟩:=ae h;have f:=ZA a (aL d);refine ZF f ?_;have f:=ZA f hC_fZ0.1;refine ZSG f (hf_fZ0 _ _ l) ?_;obtain⟨g,h⟩|⟨g,h⟩:=aq h
  ·cases h;exact ZL (ZA a (ZA (aL d) g)) (ZA @ay.eq_1 (ZA hC_fZ0.2 ((cd hC_fZ0))))
  ·cases h;exact ZL (ZA a (ZA (aL d) g)) (ZA e (ZA hC_fZ0.2 ((cd hC_fZ0))))
 ·cases h;exact ZL a (ZA e (ZA hC_fZ0.2 ((cd hC_fZ0))))
theorem w_hj(a:List Int)(c:Int->Option Bool){r:Int}(h:Om a c=some r)(F_fZ0:Nat)(C_fZ0:List AV)(hC_fZ0:lm C_fZ0)(hf_fZ0:∀(x0:Int)(r:Bool),c x0=some r->Ok Tryz.prog F_fZ0 ((.i x0)::C_fZ0) (.b r)):Ok Tryz.prog 217 [.lst .o 1 (a.map AV.i),.fn F_fZ0 C_fZ0] (.i r):=by
 refine aA bb m217 rfl ?_;unfold Om at h;simp only[ZC,A217,ay,aH];obtain⟨d,g,h⟩:=ae h;try refine ZF trivial ?_
 refine bj (o:=d) (bq cD (aB (w_cd a c F_fZ0 C_fZ0 hC_fZ0 hf_fZ0) g ?_)) (fun k hv=>?_) (fun l hv e τ hne hq=>?_)
 ·exact ZK (ZA @FV.eq_1 (ZA @bO.eq_1 (ZA hC_fZ0.2 ((cd hC_fZ0)))))
 ·subst hv;simp only[] at h;simp only[ZC,bO,Iy];cases h;exact ZL trivial (ZA @ay.eq_1 (ZA hC_fZ0.2 ((cd hC_fZ0))))
 ·subst hv;simp only[] at h;obtain⟨rfl,j⟩:=hq;cases h;exact j
theorem w_fm(a:List Int)(c:Int->Option Bool){r:Bool}(h:Jg a c=some r)(F_fZ0:Nat)(C_fZ0:List AV)(hC_fZ0:lm C_fZ0)(hf_fZ0:∀(x0:Int)(r:Bool),c x0=some r->Ok Tryz.prog F_fZ0 ((.i x0)::C_fZ0) (.b r)):Ok Tryz.prog 177 [.lst .o 1 (a.map AV.i),.fn F_fZ0 C_fZ0] (.b r):=by
 refine aA bb m177 rfl ?_;unfold Jg at h;simp only[ZC,A177,ay,aH];obtain⟨g,d,h⟩:=ae h;refine ZF trivial ?_;refine ZSG hC_fZ0.1 (w_hj _ _ d F_fZ0 C_fZ0 hC_fZ0 hf_fZ0) ?_;cases h;exact ZL trivial (ZA @ay.eq_1 (ZA hC_fZ0.2 ((cd hC_fZ0))))
theorem w_fn(a:Int){r:Bool}(h:EA a=some r):Ok Tryz.prog 178 [.i a] (.b r):=by
 refine aA bb m178 rfl ?_;unfold EA at h;simp only[ZC,A178,V10,aH];obtain⟨d,c,h⟩:=ae h;refine ZF trivial ?_;refine ZSG trivial (w_h _ _ _ c) ?_;cases h;exact ZL trivial @V10.eq_1
theorem UI(c:List ah)(d:List Int){r:Bool}(h:xw c d=some r):Ok Tryz.prog 113 [.lst .o 10 (c.map (aj .o)),.lst .o 1 (d.map AV.i)] (.b r):=by
 refine aA bb m113 rfl ?_;unfold xw at h;simp only[ZC,A113,ay,aH];obtain⟨a,h⟩|⟨a,h⟩:=aq h
 ·obtain⟨j,g,h⟩:=ae h;refine ZF a ?_;refine ZSG a (w_fm _ _ g 178 [] ⟨fun ρ k=>by simp only[VS1,VS2,VS3,VS4,VS5,VS6,VT1,VT2,ce,cb,decide_true,decide_false,List.nodup_nil,List.nodup_cons,fe,fl,fh,ne_eq,not_false_eq_true,Int.reduceEq,Int.reduceNe,true_and,false_and,Nat.reduceSub,Nat.reduceMul,↓reduceIte,reduceCtorEq,Nat.reduceEqDiff,Nat.reduceAdd,Nat.reduceLeDiff,Int.reduceLE],by simp[aN,AV.ments]⟩ (fun _ _ h=>w_fn _ h)) ?_;cases h;exact ZL a @ay.eq_1
 ·cases h;exact ZL a @ay.eq_1
theorem w_ep(b:List Int){r:List Int}(h:AG b=some r):Ok Tryz.prog 80 [.lst .o 1 (b.map AV.i)] (.lst .u 1 (r.map AV.i)):=by
 refine aA bb m80 rfl ?_;unfold AG at h;simp only[ZC,A80,V10,aH];obtain⟨a,h⟩|⟨a,h⟩:=aq h
 ·refine ZF a ?_;refine And.intro ?_ ?_
  ·replace h:=Wt h;cases h;exact ZL a @V10.eq_1
  ·replace h:=Wl h;obtain⟨g,c,h⟩:=ae h;cases h;exact ZL (ZA a (aI c)) @V10.eq_1
 ·obtain⟨j,d,h⟩:=ae h;cases h;exact ZL (ZA a (aI d)) @V10.eq_1
theorem w_gx(b:Int)(c:Int)(a:List Int){r:Nat×Nat×List Int}(h:EP b c a=some r):OkM Tryz.prog 114 [.sl 1000000000 0 a.length,.i b,.i c] [(1000000000,.arr 1 (a.map AV.i))] (.sl 1000000000 r.1 r.2.1) ([(1000000000,.arr 1 (r.2.2.map AV.i))]):=by
 refine aY (lr:=[1000000000]) bb Va rfl rfl ?_;unfold EP at h;simp only[ZC,Eo,bJ];obtain⟨z1,l,h⟩:=ae h;obtain⟨j,h⟩|⟨j,h⟩:=aq h
 ·cases h;exact ZL (ZA (aI l) j) @bJ.eq_1
 ·obtain⟨a2,j1,h⟩:=ae h;obtain⟨k1,l1,m,p⟩:=aI j1;have q:=And.intro m p;try simp only[Int.toNat_natCast,Nat.zero_add] at q
  obtain⟨b2,m1,h⟩:=ae h;obtain⟨p1,q1,s,t⟩:=aI m1;have u:=And.intro s t;try simp only[Int.toNat_natCast,Nat.zero_add] at u
  obtain⟨d,s1,h⟩:=aK h;have t1:sub (a.map AV.i) (Int.toNat c) (a.length-(Int.toNat c))=d.map AV.i:=by rw[bD,s1]
  obtain⟨c2,u1,h⟩:=ae h;have v:=aI u1;have w:=v;try rw[Nat.zero_add] at w
  obtain⟨g,x,h⟩:=aK h;have y:dx (a.map AV.i) (Int.toNat b) (d.map AV.i)=g.map AV.i:=by rw[<-x,<-iP]<;>simp[List.map_take]
  try simp only[Int.toNat_natCast] at y
  have z:g.length=a.length:=by rw[<-x];exact da _ _ _
  obtain⟨d2,v1,h⟩:=ae h;obtain⟨w1,x1,a1,b1⟩:=aI v1;have k:=And.intro a1 b1;try simp only[Int.toNat_natCast,Nat.zero_add] at k
  have c1:=k;try simp only[z] at c1
  obtain⟨d1,g1,h⟩:=aK h;have i1:dx (g.map AV.i) (Int.toNat ((((Int.toNat b)+d.length):Nat):Int)) (List.replicate ((Int.toNat (a.length:Int))-(Int.toNat ((((Int.toNat b)+d.length):Nat):Int))) (.i 0:AV))=d1.map AV.i:=by rw[<-g1,<-iP]<;>simp[List.map_take]
  try simp only[Int.toNat_natCast] at i1
  have y1:d1.length=g.length:=by rw[<-g1];exact da _ _ _
  cases h;exact ZL (ZA (aI l) (ZA j (ZA k1 (ZA l1 (ZA m (ZA p (ZA q (ZA p1 (ZA q1 (ZA s (ZA t (ZA u (ZA t1 (ZA v (ZA w (ZA y (ZA w1 (ZA x1 (ZA a1 (ZA b1 (ZA k (ZA c1 i1)))))))))))))))))))))) (ZA @bJ.eq_1 (ZA z y1))
def Mz(a:List Int)(b:List (List Int))(v:Int×List Int):St:=⟨[(5,.sl 5 0 v.2.length),(6,.sl 6 0 b.length),(12,.lst .o 1 (a.map AV.i)),(13,.i (a.length:Int)),(14,.i v.1)],[(5,.arr 1 (v.2.map AV.i)),(6,.arr 1 (b.map (bI .u)))]⟩
theorem w_cb(b:List Int)(c:List (List Int))(a:Int×List Int)(o:(Int×List Int)⊕(List Int))(h:DH b c a=some o):AWP (OkS Tryz.prog) Jk (qL [5,6,12,13,14] [5,6] (Mz b c) (qX 0 [5] [5] (gP)) o) (Mz b c a):=by
 have e:=ZA @Mz.eq_1 @gP.eq_1;unfold DH at h;simp only[ZC,Mz,Jk];obtain⟨d,h⟩|⟨d,h⟩:=aq h
 ·obtain⟨v,p,h⟩:=ae h;obtain⟨w,q,h⟩:=ae h;obtain⟨j,s,h⟩:=ae h;obtain⟨x,t,h⟩:=ae h;have k:=aI t;obtain⟨l,g,h⟩:=aK h;have u:a.2.map AV.i++j.map AV.i=l.map AV.i:=by rw[<-g,List.map_append]
  have m:a.2.length+j.length=l.length:=by simp[<-g]<;>omega
  rw[m] at k;cases h;exact ZL (ZA d (ZA (aL p) (ZA (aI q) (ZA s (ZA k (ZA u m)))))) (ZA e g.symm)
 ·cases h;exact ZL d e
theorem w_ff(a:af)(b:List Int){r:List Int}(h:EC a b=some r):Ok Tryz.prog 66 [.agg [.lst .o 1 (a.Nodes.map AV.z),.lst .o 4 (a.Fibers.map (ai .o))],.lst .o 1 (b.map AV.i)] (.lst .u 1 (r.map AV.i)):=by
 refine aA bb m66 rfl ?_;unfold EC at h;simp only[ZC,A66,ay,aH];obtain⟨c,d,h⟩:=ae h;refine ZF trivial ?_;refine ZUG trivial (Pk _ d) ?_;obtain⟨j,g,h⟩:=ae h;try refine ZF trivial ?_
 refine ax (aX (aB (w_cb b c) g ?_)) ?_
 ·exact ZK (ZA @Mz.eq_1 @gP.eq_1)
 ·simp only[ZC,gP,Rv];cases h;exact ZL trivial @ay.eq_1
theorem w_fs(a:ah)(p1Z0:ah){r:Bool}(h:JQ a p1Z0=some r):Ok Tryz.prog 141 [.agg [.i a.Id,.i a.Class,.i a.Work.Start,.lst .o 1 (a.Work.Fibers.map AV.i),.i a.WorkBlock.First,.i a.WorkBlock.Count,.i a.Spare.Start,.lst .o 1 (a.Spare.Fibers.map AV.i),.i a.SpareBlock.First,.i a.SpareBlock.Count],.bp .o (.agg [.i p1Z0.Id,.i p1Z0.Class,.i p1Z0.Work.Start,.lst .o 1 (p1Z0.Work.Fibers.map AV.i),.i p1Z0.WorkBlock.First,.i p1Z0.WorkBlock.Count,.i p1Z0.Spare.Start,.lst .o 1 (p1Z0.Spare.Fibers.map AV.i),.i p1Z0.SpareBlock.First,.i p1Z0.SpareBlock.Count]) 0] (.b r):=by
 refine aA bb m141 rfl ?_;unfold JQ at h;simp only[ZC,A141,DF,aH];obtain⟨d,c,h⟩:=ae h;refine ZF trivial ?_;refine ZSG trivial (MY _ _ _ _ c) ?_;cases h;exact ZL trivial @DF.eq_1
def S_m(a:List ah)(b:List Int)(v:Int×List Int×List ah):St:=⟨[(7,.sl 7 0 b.length),(8,.sl 8 0 v.2.1.length),(9,.sl 9 0 v.2.2.length),(21,.lst .o 10 (a.map (aj .o))),(22,.i (a.length:Int)),(23,.i v.1)],[(7,.arr 1 (b.map AV.i)),(8,.arr 1 (v.2.1.map AV.i)),(9,.arr 10 (v.2.2.map (aj .o)))]⟩
def uw(v:List Int):St:=⟨[(8,.sl 8 0 v.length)],[(8,.arr 1 (v.map AV.i))]⟩
theorem w_m(d:List ah)(g:List Int)(c:Int×List Int×List ah)(o:(Int×List Int×List ah)⊕(List Int))(h:M_m d g c=some o):AWP (OkS Tryz.prog) FK (qL [7,8,9,21,22,23] [7,8,9] (S_m d g) (qX 0 [8] [8] (uw)) o) (S_m d g c):=by
 have e:=ZA @S_m.eq_1 @uw.eq_1;unfold M_m at h;simp only[ZC,S_m,FK];obtain⟨p,h⟩|⟨p,h⟩:=aq h
 ·obtain⟨a,q1,h⟩:=ae h;obtain⟨s1,t1,h⟩:=ae h;have f:=ZA p (aL q1);refine ZF f ?_;refine ZUG f (OV _ _ t1) ?_;obtain⟨u1,v1,h⟩:=ae h;refine ZF f ?_;refine ZUG f (OV _ _ v1) ?_;obtain⟨c1,w1,h⟩:=ae h;try refine ZF f ?_
  refine ax (sh:=(fun v=>⟨[(7,.sl 7 0 g.length),(8,.sl 8 0 c.2.1.length),(9,.sl 9 0 v.2.length),(14,.i v.1),(21,.lst .o 10 (d.map (aj .o))),(22,.i (d.length:Int)),(23,.i c.1)],[(7,.arr 1 (g.map AV.i)),(8,.arr 1 (c.2.1.map AV.i)),(9,.arr 10 (v.2.map (aj .o)))]⟩)) (s:=c1) ?_ ?_
  ·replace h:=w1;obtain⟨x1,y1,h⟩:=ae h;try refine ZF f ?_
   refine ax (sh:=(fun v=>⟨[(7,.sl 7 0 g.length),(8,.sl 8 0 c.2.1.length),(9,.sl 9 0 c.2.2.length),(11,.pt 11 0 0),(12,.b (decide (0<(s1.length:Int)))),(13,.b (decide (0<(u1.length:Int)))),(14,.i 3),(21,.lst .o 10 (d.map (aj .o))),(22,.i (d.length:Int)),(23,.i c.1),(41,.b v)],[(7,.arr 1 (g.map AV.i)),(8,.arr 1 (c.2.1.map AV.i)),(9,.arr 10 (c.2.2.map (aj .o))),(11,.var (.agg [.i a.Id,.i a.Class,.i a.Work.Start,.lst .o 1 (a.Work.Fibers.map AV.i),.i a.WorkBlock.First,.i a.WorkBlock.Count,.i a.Spare.Start,.lst .o 1 (a.Spare.Fibers.map AV.i),.i a.SpareBlock.First,.i a.SpareBlock.Count]))]⟩)) (s:=x1) ?_ ?_
   ·replace h:=y1;obtain⟨q,h⟩|⟨q,h⟩:=aq h
    ·cases h;exact ZL (ZA f q) trivial
    ·cases h;exact ZL (ZA f q) trivial
   ·simp only[ZC,Sa];obtain⟨j,h⟩|⟨j,h⟩:=aq h
    ·cases h;exact ZL (ZA f j) trivial
    ·obtain⟨t,h⟩|⟨t,h⟩:=aq h
     ·cases h;exact ZL (ZA f (ZA j t)) trivial
     ·obtain⟨z1,a2,h⟩:=ae h;have f:=ZA f (ZA j t);try refine ZF f ?_
      refine ax (sh:=(fun v=>⟨[(7,.sl 7 0 g.length),(8,.sl 8 0 c.2.1.length),(9,.sl 9 0 c.2.2.length),(11,.pt 11 0 0),(14,.i 3),(21,.lst .o 10 (d.map (aj .o))),(22,.i (d.length:Int)),(23,.i c.1),(51,.b v)],[(7,.arr 1 (g.map AV.i)),(8,.arr 1 (c.2.1.map AV.i)),(9,.arr 10 (c.2.2.map (aj .o))),(11,.var (.agg [.i a.Id,.i a.Class,.i a.Work.Start,.lst .o 1 (a.Work.Fibers.map AV.i),.i a.WorkBlock.First,.i a.WorkBlock.Count,.i a.Spare.Start,.lst .o 1 (a.Spare.Fibers.map AV.i),.i a.SpareBlock.First,.i a.SpareBlock.Count]))]⟩)) (s:=z1) ?_ ?_
      ·replace h:=a2;obtain⟨u,h⟩|⟨u,h⟩:=aq h
       ·cases h;exact ZL (ZA f u) trivial
       ·cases h;exact ZL (ZA f u) trivial
      ·simp only[ZC,Sl];obtain⟨w,h⟩|⟨w,h⟩:=aq h
       ·obtain⟨l2,b2,h⟩:=ae h;have f:=ZA f w;refine ZF f ?_;refine ZSG f (UG _ _ b2 141 [.bp .o (.agg [.i a.Id,.i a.Class,.i a.Work.Start,.lst .o 1 (a.Work.Fibers.map AV.i),.i a.WorkBlock.First,.i a.WorkBlock.Count,.i a.Spare.Start,.lst .o 1 (a.Spare.Fibers.map AV.i),.i a.SpareBlock.First,.i a.SpareBlock.Count]) 0] ⟨fun ρ k=>by simp only[VS1,VS2,VS3,VS4,VS5,VS6,VT1,VT2,ce,cb,decide_true,decide_false,List.nodup_nil,List.nodup_cons,fe,fl,fh,ne_eq,not_false_eq_true,Int.reduceEq,Int.reduceNe,true_and,false_and,Nat.reduceSub,Nat.reduceMul,↓reduceIte,reduceCtorEq,Nat.reduceEqDiff,Nat.reduceAdd,Nat.reduceLeDiff,Int.reduceLE],by simp[aN,AV.ments]⟩ (fun _ _ h=>w_fs _ _ h)) ?_;obtain⟨x,h⟩|⟨x,h⟩:=aq h
        ·obtain⟨y,l,h⟩:=aK h;have c2:Row.arr 10 [(.agg [.i a.Id,.i a.Class,.i a.Work.Start,.lst .o 1 (a.Work.Fibers.map AV.i),.i a.WorkBlock.First,.i a.WorkBlock.Count,.i a.Spare.Start,.lst .o 1 (a.Spare.Fibers.map AV.i),.i a.SpareBlock.First,.i a.SpareBlock.Count]:AV)]=Row.arr 10 (y.map (aj .o)):=by rw[<-l];rfl
         have d1:y.length=1:=by rw[<-l];rfl
         obtain⟨m2,d2,h⟩:=ae h;have g1:=aI d2;obtain⟨i1,z,h⟩:=aK h;have g2:c.2.2.map (aj .o)++y.map (aj .o)=i1.map (aj .o):=by rw[<-z,List.map_append]
         have j1:c.2.2.length+1=i1.length:=by simp[<-l,<-z]<;>omega
         rw[j1] at g1;cases h;exact ZL (ZA f (ZA x (ZA c2 (ZA d1 (ZA g1 (ZA g2 j1)))))) (ZA l.symm (ZA z.symm d1))
        ·cases h;exact ZL (ZA f x) trivial
       ·cases h;exact ZL (ZA f w) trivial
  ·simp only[ZC,Sq];obtain⟨a1,m,h⟩:=aK h;have i2:Row.arr 1 [(.i c1.1:AV)]=Row.arr 1 (a1.map AV.i):=by rw[<-m];rfl
   have k1:a1.length=1:=by rw[<-m];rfl
   obtain⟨p2,j2,h⟩:=ae h;have l1:=aI j2;obtain⟨m1,b1,h⟩:=aK h;have k2:c.2.1.map AV.i++a1.map AV.i=m1.map AV.i:=by rw[<-b1,List.map_append]
   have p1:c.2.1.length+1=m1.length:=by simp[<-m,<-b1]<;>omega
   rw[p1] at l1;cases h;exact ZL (ZA f (ZA i2 (ZA k1 (ZA l1 (ZA k2 p1))))) (ZA e (ZA m.symm (ZA b1.symm k1)))
 ·cases h;exact ZL p e
theorem w_fr(a:af)(b:List ah)(c:List Int){r:List Int}(h:Mg a b c=some r):Ok Tryz.prog 70 [.agg [.lst .o 1 (a.Nodes.map AV.z),.lst .o 4 (a.Fibers.map (ai .o))],.lst .o 10 (b.map (aj .o)),.lst .o 1 (c.map AV.i)] (.lst .u 1 (r.map AV.i)):=by
 refine aA bb m70 rfl ?_;unfold Mg at h;simp only[ZC,A70,bJ,aH];obtain⟨d,g,h⟩:=ae h;refine ZF trivial ?_;refine ZUG trivial (w_ff _ _ g) ?_;obtain⟨k,j,h⟩:=ae h;try refine ZF trivial ?_
 refine ax (aX (aB (w_m b d) j ?_)) ?_
 ·exact ZK (ZA @S_m.eq_1 @uw.eq_1)
 ·simp only[ZC,uw,SE];cases h;exact ZL trivial @bJ.eq_1
def LB(b:List Int)(a:List Int)(v:Int×Int):St:=⟨[(2,.lst .o 1 (b.map AV.i)),(9,.i v.1),(15,.sl 15 0 a.length),(16,.i (a.length:Int)),(17,.i v.2)],[(15,.arr 1 (a.map AV.i))]⟩
def yP(v:Int):St:=⟨[(9,.i v)],[]⟩
theorem w_ag(b:List Int)(c:List Int)(g:Int×Int)(o:(Int×Int)⊕Int)(h:Bw b c g=some o):AWP (OkS Tryz.prog) vP (qL [2,9,15,16,17] [15] (LB b c) (qX 0 [9] [] (yP)) o) (LB b c g):=by
 have e:=ZA @LB.eq_1 @yP.eq_1;unfold Bw at h;simp only[ZC,LB,vP];obtain⟨a,h⟩|⟨a,h⟩:=aq h
 ·obtain⟨l,i,h⟩:=ae h;obtain⟨m,j,h⟩:=ae h;obtain⟨d,h⟩|⟨d,h⟩:=aq h
  ·obtain⟨p,k,h⟩:=ae h;cases h;exact ZL (ZA a (ZA (aI i) (ZA j (ZA d (aL k))))) e
  ·cases h;exact ZL (ZA a (ZA (aI i) (ZA j d))) e
 ·cases h;exact ZL a e
theorem NX(a:af)(c:List ah)(b:List Int)(d:List Int){r:Int}(h:tf a c b d=some r):Ok Tryz.prog 115 [.agg [.lst .o 1 (a.Nodes.map AV.z),.lst .o 4 (a.Fibers.map (ai .o))],.lst .o 10 (c.map (aj .o)),.lst .o 1 (b.map AV.i),.lst .o 1 (d.map AV.i)] (.i r):=by
 refine aA bb m115 rfl ?_;unfold tf at h;simp only[ZC,A115,gU,aH];obtain⟨g,j,h⟩:=ae h;refine ZF trivial ?_;refine ZUG trivial (w_fr _ _ _ j) ?_;obtain⟨l,k,h⟩:=ae h;try refine ZF trivial ?_
 refine ax (aX (aB (w_ag b g) k ?_)) ?_
 ·exact ZK (ZA @LB.eq_1 @yP.eq_1)
 ·simp only[ZC,yP,HF];cases h;exact ZL trivial @gU.eq_1
theorem w_eu(a:Nat)(d:Nat)(b:Int)(g:Int)(c:List Int){r:Nat×Nat×List Int}(h:Ap a d b g c=some r):OkM Tryz.prog 114 [.sl 1000000000 a d,.i b,.i g] [(1000000000,.arr 1 (c.map AV.i))] (.sl 1000000000 r.1 r.2.1) ([(1000000000,.arr 1 (r.2.2.map AV.i))]):=by
 refine aY (lr:=[1000000000]) bb Ue rfl rfl ?_;unfold Ap at h;simp only[ZC,Gf,bJ];obtain⟨b2,p,h⟩:=ae h;obtain⟨l,h⟩|⟨l,h⟩:=aq h
 ·cases h;exact ZL (ZA (aI p) l) @bJ.eq_1
 ·obtain⟨c2,l1,h⟩:=ae h;obtain⟨m1,p1,q,s⟩:=aI l1;have t:=And.intro q s;try simp only[Int.toNat_natCast,Nat.zero_add] at t
  obtain⟨d2,q1,h⟩:=ae h;obtain⟨s1,t1,u,v⟩:=aI q1;have w:=And.intro u v;try simp only[Int.toNat_natCast,Nat.zero_add] at w
  obtain⟨j,u1,h⟩:=aK h;have v1:sub (c.map AV.i) (a+(Int.toNat g)) (d-(Int.toNat g))=j.map AV.i:=by rw[bD,u1]
  obtain⟨g2,w1,h⟩:=ae h;have x:=aI w1;have y:=x;try rw[Nat.zero_add] at y
  obtain⟨k,z,h⟩:=aK h;have a1:dx (c.map AV.i) (a+(Int.toNat b)) (j.map AV.i)=k.map AV.i:=by rw[<-z,<-iP]<;>simp[List.map_take]
  try simp only[Int.toNat_natCast] at a1
  have b1:k.length=c.length:=by rw[<-z];exact da _ _ _
  obtain⟨i2,x1,h⟩:=ae h;obtain⟨y1,z1,c1,d1⟩:=aI x1;have m:=And.intro c1 d1;try simp only[Int.toNat_natCast,Nat.zero_add] at m
  have g1:=m;try simp only[b1] at g1
  obtain⟨i1,j1,h⟩:=aK h;have k1:dx (k.map AV.i) (a+(Int.toNat ((((Int.toNat b)+j.length):Nat):Int))) (List.replicate ((Int.toNat (d:Int))-(Int.toNat ((((Int.toNat b)+j.length):Nat):Int))) (.i 0:AV))=i1.map AV.i:=by rw[<-j1,<-iP]<;>simp[List.map_take]
  try simp only[Int.toNat_natCast] at k1
  have a2:i1.length=k.length:=by rw[<-j1];exact da _ _ _
  cases h;exact ZL (ZA (aI p) (ZA l (ZA m1 (ZA p1 (ZA q (ZA s (ZA t (ZA s1 (ZA t1 (ZA u (ZA v (ZA w (ZA v1 (ZA x (ZA y (ZA a1 (ZA y1 (ZA z1 (ZA c1 (ZA d1 (ZA m (ZA g1 k1)))))))))))))))))))))) (ZA @bJ.eq_1 (ZA b1 a2))
def S_s(b:af)(c:List ah)(d:List Int)(a:Nat×Nat×List Int×List Int)(v:Int×Int×Int):St:=⟨[(1,.lst .o 10 (c.map (aj .o))),(2,.lst .o 1 (d.map AV.i)),(4,.pt 4 0 0),(10,.sl 10 0 a.2.2.1.length),(11,.sl 11 a.1 a.2.1),(12,.i v.1),(13,.i v.2.1),(35,.i (a.2.1:Int)),(36,.i v.2.2)],[(4,.var (.agg [.lst .o 1 (b.Nodes.map AV.z),.lst .o 4 (b.Fibers.map (ai .o))])),(10,.arr 1 (a.2.2.1.map AV.i)),(11,.arr 1 (a.2.2.2.map AV.i))]⟩
def Pe(b:af)(c:List ah)(d:List Int)(a:Nat×Nat×List Int×List Int)(v:Int):St:=⟨[(1,.lst .o 10 (c.map (aj .o))),(2,.lst .o 1 (d.map AV.i)),(4,.pt 4 0 0),(10,.sl 10 0 a.2.2.1.length),(11,.sl 11 a.1 a.2.1),(12,.i v)],[(4,.var (.agg [.lst .o 1 (b.Nodes.map AV.z),.lst .o 4 (b.Fibers.map (ai .o))])),(10,.arr 1 (a.2.2.1.map AV.i)),(11,.arr 1 (a.2.2.2.map AV.i))]⟩
theorem w_s(c:af)(g:List ah)(j:List Int)(a:Nat×Nat×List Int×List Int)(d:Int×Int×Int)(o:(Int×Int×Int)⊕Int)(h:M_s c g j a d=some o):AWP (OkS Tryz.prog) Ej (qL [1,2,4,10,11,12,13,35,36] [4,10,11] (S_s c g j a) (qX 2 [1,2,4,10,11,12] [4,10,11] (Pe c g j a)) o) (S_s c g j a d):=by
 have e:=ZA @S_s.eq_1 @Pe.eq_1;unfold M_s at h;simp only[ZC,S_s,Ej];obtain⟨k,h⟩|⟨k,h⟩:=aq h
 ·obtain⟨q,t,h⟩:=aK h;have u:sub (a.2.2.2.map AV.i) a.1 a.2.1=q.map AV.i:=by rw[bD,t]
  obtain⟨j1,w,h⟩:=ae h;have f:=ZA k u;refine ZF f ?_;refine ZUG f (w_ep _ w) ?_;obtain⟨l,x,h⟩:=ae h;refine ZF f ?_;refine ZWG f (w_gx _ _ _ x) [1000000000] [] ?_;obtain⟨y,a1,h⟩:=aK h;have b1:sub (l.2.2.map AV.i) l.1 l.2.1=y.map AV.i:=by rw[bD,a1]
  obtain⟨c1,d1,h⟩:=ae h;have f:=ZA f b1;refine ZF f ?_;refine ZSG f (NX _ _ _ _ d1) ?_;obtain⟨g1,i1,h⟩:=ae h;try refine ZF f ?_
  refine ax (sh:=(fun v=>⟨[(1,.lst .o 10 (g.map (aj .o))),(2,.lst .o 1 (j.map AV.i)),(4,.pt 4 0 0),(10,.sl 10 0 a.2.2.1.length),(11,.sl 11 a.1 a.2.1),(12,.i d.1),(13,.i d.2.1),(14,.i d.2.2),(16,.i c1),(35,.i (a.2.1:Int)),(36,.i d.2.2),(56,.b v)],[(4,.var (.agg [.lst .o 1 (c.Nodes.map AV.z),.lst .o 4 (c.Fibers.map (ai .o))])),(10,.arr 1 (a.2.2.1.map AV.i)),(11,.arr 1 (a.2.2.2.map AV.i))]⟩)) (s:=g1) ?_ ?_
  ·replace h:=i1;obtain⟨m,h⟩|⟨m,h⟩:=aq h
   ·cases h;exact ZL (ZA f m) trivial
   ·cases h;exact ZL (ZA f m) trivial
  ·simp only[ZC,SB];obtain⟨p,h⟩|⟨p,h⟩:=aq h
   ·cases h;exact ZL (ZA f p) e
   ·cases h;exact ZL (ZA f p) e
 ·cases h;exact ZL k e
def S_n(a:af)(b:List ah)(c:List Int)(v:Nat×Nat×List Int×List Int):St:=⟨[(1,.lst .o 10 (b.map (aj .o))),(2,.lst .o 1 (c.map AV.i)),(4,.pt 4 0 0),(10,.sl 10 0 v.2.2.1.length),(11,.sl 11 v.1 v.2.1)],[(4,.var (.agg [.lst .o 1 (a.Nodes.map AV.z),.lst .o 4 (a.Fibers.map (ai .o))])),(10,.arr 1 (v.2.2.1.map AV.i)),(11,.arr 1 (v.2.2.2.map AV.i))]⟩
def vB(v:List Int):St:=⟨[(10,.sl 10 0 v.length)],[(10,.arr 1 (v.map AV.i))]⟩
theorem w_n(b:af)(c:List ah)(d:List Int)(a:Nat×Nat×List Int×List Int)(o:(Nat×Nat×List Int×List Int)⊕(List Int))(h:M_n b c d a=some o):AWP (OkS Tryz.prog) GU (qL [1,2,4,10,11] [4,10,11] (S_n b c d) (qX 0 [10] [10] (vB)) o) (S_n b c d a):=by
 have e:=ZA @S_n.eq_1 @vB.eq_1;unfold M_n at h;simp only[ZC,S_n,GU];obtain⟨g,h⟩|⟨g,h⟩:=aq h
 ·obtain⟨b1,t,h⟩:=ae h;try refine ZF g ?_
  refine ax (aX (aB (w_s b c d a) t ?_)) ?_
  ·exact ZK (ZA @S_s.eq_1 @Pe.eq_1)
  ·simp only[ZC,Pe,RQ];obtain⟨c1,u,h⟩:=ae h;obtain⟨v,w,h⟩:=ae h;obtain⟨k,j,h⟩:=aK h;have x:Row.arr 1 [(.i v:AV)]=Row.arr 1 (k.map AV.i):=by rw[<-j];rfl
   have m:k.length=1:=by rw[<-j];rfl
   obtain⟨d1,y,h⟩:=ae h;have p:=aI y;obtain⟨q,l,h⟩:=aK h;have z:a.2.2.1.map AV.i++k.map AV.i=q.map AV.i:=by rw[<-l,List.map_append]
   have s:a.2.2.1.length+1=q.length:=by simp[<-j,<-l]<;>omega
   rw[s] at p;obtain⟨g1,a1,h⟩:=ae h;have f:=ZA g (ZA (aI u) (ZA w (ZA x (ZA m (ZA p (ZA z s))))));refine ZF f ?_;refine ZWG f (w_eu _ _ _ _ _ a1) [1000000000] [] ?_;cases h;exact ZL f (ZA e (ZA j.symm (ZA l.symm m)))
 ·cases h;exact ZL g e
theorem w_gy(a:af)(g:List ah)(j:List Int)(k:List Int){r:List Int×Bool}(h:Ix a g j k=some r):Ok Tryz.prog 35 [.agg [.lst .o 1 (a.Nodes.map AV.z),.lst .o 4 (a.Fibers.map (ai .o))],.lst .o 10 (g.map (aj .o)),.lst .o 1 (j.map AV.i),.lst .o 1 (k.map AV.i)] (.tup [.lst .u 1 (r.1.map AV.i),.b r.2]):=by
 refine aA bb m35 rfl ?_;unfold Ix at h;simp only[ZC,A35,V35,aH];obtain⟨l,m,h⟩:=ae h;try refine ZF trivial ?_
 refine ax (sh:=(fun v=>⟨[(1,.lst .o 10 (g.map (aj .o))),(2,.lst .o 1 (j.map AV.i)),(3,.lst .o 1 (k.map AV.i)),(4,.pt 4 0 0),(27,.b v)],[(4,.var (.agg [.lst .o 1 (a.Nodes.map AV.z),.lst .o 4 (a.Fibers.map (ai .o))]))]⟩)) (s:=l) ?_ ?_
 ·replace h:=m;obtain⟨x,p,h⟩:=ae h;refine ZF trivial ?_;refine ZSG trivial (w_dt _ _ _ p) ?_;obtain⟨d,h⟩|⟨d,h⟩:=aq h
  ·cases h;exact ZL d trivial
  ·obtain⟨y,q,h⟩:=ae h;refine ZF d ?_;refine ZSG d (UI _ _ q) ?_;cases h;exact ZL d trivial
 ·simp only[ZC,Sp];obtain⟨c,h⟩|⟨c,h⟩:=aq h
  ·cases h;exact ZL c @V35.eq_1
  ·obtain⟨a1,t,h⟩:=ae h;refine ZF c ?_;refine ZUG c (w_ep _ t) ?_;obtain⟨b1,w,h⟩:=ae h;try refine ZF c ?_
   refine ax (aX (aB (w_n a g j) w ?_)) ?_
   ·exact ZK (ZA @S_n.eq_1 @vB.eq_1)
   ·simp only[ZC,vB,RY];cases h;exact ZL c @V35.eq_1
def Lx(a:List Int)(b:Int)(c:Int)(v:Int):St:=⟨[(0,.lst .o 1 (a.map AV.i)),(1,.i b),(2,.i c),(7,.i v)],[]⟩
theorem w_ca(c:List Int)(d:Int)(g:Int)(k:Int)(o:Int⊕(Unit⊕Bool))(h:Ax c d g k=some o):AWP (OkS Tryz.prog) wU (qL [0,1,2,7] [] (Lx c d g) (qS (qX 0 [] [] (bO)) (qR bJ (fun r=>.b r))) o) (Lx c d g k):=by
 have e:=ZA @Lx.eq_1 @bO.eq_1;unfold Ax at h;simp only[ZC,Lx,wU];obtain⟨a,h⟩|⟨a,h⟩:=aq h
 ·obtain⟨p,q,h⟩:=ae h;try refine ZF a ?_
  refine ax (sh:=(fun v=>⟨[(0,.lst .o 1 (c.map AV.i)),(1,.i d),(2,.i g),(7,.i k),(37,.b v)],[]⟩)) (s:=p) ?_ ?_
  ·replace h:=q;obtain⟨x,t,h⟩:=ae h;obtain⟨y,u,h⟩:=ae h;have f:=ZA a (aL t);refine ZF f ?_;refine ZSG f (w_c _ _ _ u) ?_;obtain⟨j,h⟩|⟨j,h⟩:=aq h
   ·cases h;exact ZL (ZA f j) trivial
   ·obtain⟨l,h⟩|⟨l,h⟩:=aq h
    ·obtain⟨z,w,h⟩:=ae h;cases h;exact ZL (ZA f (ZA j (ZA l (aL w)))) trivial
    ·cases h;exact ZL (ZA f (ZA j l)) trivial
  ·simp only[ZC,FJ];obtain⟨m,h⟩|⟨m,h⟩:=aq h
   ·cases h;exact ZL (ZA a m) @bJ.eq_1
   ·cases h;exact ZL (ZA a m) e
 ·cases h;exact ZL a e
theorem w_fd(a:List Int)(c:Int)(d:Int){r:Bool}(h:KG a c d=some r):Ok Tryz.prog 143 [.lst .o 1 (a.map AV.i),.i c,.i d] (.b r):=by
 refine aA bb m143 rfl ?_;unfold KG at h;simp only[ZC,A143,bJ,aH];obtain⟨g,j,h⟩:=ae h;try refine ZF trivial ?_
 refine bj (o:=g) (bq cD (aB (w_ca a c d) j ?_)) (fun l hv=>?_) (fun m hv e τ hne hq=>?_)
 ·exact ZK (ZA @Lx.eq_1 @bO.eq_1)
 ·subst hv;simp only[] at h;simp only[ZC,bO,Fi];cases h;exact ZL trivial @bJ.eq_1
 ·subst hv;simp only[] at h;obtain⟨rfl,k⟩:=hq;cases h;exact k
theorem w_fu(c:af)(d:List ah)(g:List Int){r:Bool}(h:JC c d g=some r):Ok Tryz.prog 71 [.agg [.lst .o 1 (c.Nodes.map AV.z),.lst .o 4 (c.Fibers.map (ai .o))],.lst .o 10 (d.map (aj .o)),.lst .o 1 (g.map AV.i)] (.b r):=by
 refine aA bb m71 rfl ?_;unfold JC at h;simp only[ZC,A71,bJ,aH];obtain⟨m,j,h⟩:=ae h;refine ZF trivial ?_;refine ZSG trivial (VJ _ _ j) ?_;obtain⟨a,h⟩|⟨a,h⟩:=aq h
 ·obtain⟨p,k,h⟩:=ae h;refine ZF a ?_;refine ZUG a (ND _ k) ?_;obtain⟨q,l,h⟩:=ae h;refine ZF a ?_;refine ZSG a (w_fd _ _ _ l) ?_;cases h;exact ZL a @bJ.eq_1
 ·cases h;exact ZL a @bJ.eq_1
def Fv(a:List ah)(b:List Int)(v:Int):St:=⟨[(0,.lst .o 10 (a.map (aj .o))),(1,.lst .o 1 (b.map AV.i)),(5,.i v)],[]⟩
def zh(a:List ah)(b:List Int)(v:Unit):St:=⟨[(0,.lst .o 10 (a.map (aj .o))),(1,.lst .o 1 (b.map AV.i))],[]⟩
theorem w_af(c:List ah)(a:List Int)(i:Int)(o:Int⊕(Unit⊕Bool))(h:Cf a i=some o):AWP (OkS Tryz.prog) vE (qL [0,1,5] [] (Fv c a) (qS (qX 0 [0,1] [] (zh c a)) (qR ay (fun r=>.b r))) o) (Fv c a i):=by
 have e:=ZA @Fv.eq_1 @zh.eq_1;unfold Cf at h;simp only[ZC,Fv,vE];obtain⟨d,h⟩|⟨d,h⟩:=aq h
 ·obtain⟨l,j,h⟩:=ae h;obtain⟨m,k,h⟩:=ae h;have f:=ZA d (aL j);refine ZF f ?_;refine ZSG f (w_c _ _ _ k) ?_;obtain⟨g,h⟩|⟨g,h⟩:=aq h
  ·cases h;exact ZL (ZA f g) @ay.eq_1
  ·cases h;exact ZL (ZA f g) e
 ·cases h;exact ZL d e
theorem w_ds(a:List ah)(c:List Int){r:Bool}(h:DL a c=some r):Ok Tryz.prog 106 [.lst .o 10 (a.map (aj .o)),.lst .o 1 (c.map AV.i)] (.b r):=by
 refine aA bb m106 rfl ?_;unfold DL at h;simp only[ZC,A106,ay,aH];obtain⟨d,g,h⟩:=ae h;try refine ZF trivial ?_
 refine bj (o:=d) (bq cD (aB (w_af a c) g ?_)) (fun k hv=>?_) (fun l hv e τ hne hq=>?_)
 ·exact ZK (ZA @Fv.eq_1 @zh.eq_1)
 ·subst hv;simp only[] at h;simp only[ZC,zh,Gh];cases h;exact ZL trivial @ay.eq_1
 ·subst hv;simp only[] at h;obtain⟨rfl,j⟩:=hq;cases h;exact j
def Lb(a:List Int)(b:Int)(v:Int×List Int):St:=⟨[(0,.lst .o 1 (a.map AV.i)),(1,.i b),(5,.sl 5 0 v.2.length),(6,.i v.1)],[(5,.arr 1 (v.2.map AV.i))]⟩
theorem w_bw(d:List Int)(g:Int)(a:Int×List Int)(o:(Int×List Int)⊕(List Int))(h:xl d g a=some o):AWP (OkS Tryz.prog) xp (qL [0,1,5,6] [5] (Lb d g) (qX 0 [5] [5] (gP)) o) (Lb d g a):=by
 have e:=ZA @Lb.eq_1 @gP.eq_1;unfold xl at h;simp only[ZC,Lb,xp];obtain⟨b,h⟩|⟨b,h⟩:=aq h
 ·obtain⟨u,m,h⟩:=ae h;obtain⟨j,h⟩|⟨j,h⟩:=aq h
  ·obtain⟨k,c,h⟩:=aK h;have v:Row.arr 1 [(.i u:AV)]=Row.arr 1 (k.map AV.i):=by rw[<-c];rfl
   have p:k.length=1:=by rw[<-c];rfl
   obtain⟨y,w,h⟩:=ae h;have q:=aI w;obtain⟨s,l,h⟩:=aK h;have x:a.2.map AV.i++k.map AV.i=s.map AV.i:=by rw[<-l,List.map_append]
   have t:a.2.length+1=s.length:=by simp[<-c,<-l]<;>omega
   rw[t] at q;cases h;exact ZL (ZA b (ZA (aL m) (ZA j (ZA v (ZA p (ZA q (ZA x t))))))) (ZA e (ZA c.symm (ZA l.symm p)))
  ·cases h;exact ZL (ZA b (ZA (aL m) j)) e
 ·cases h;exact ZL b e
theorem Uo(a:List Int)(b:Int){r:List Int}(h:vY a b=some r):Ok Tryz.prog 109 [.lst .o 1 (a.map AV.i),.i b] (.lst .u 1 (r.map AV.i)):=by
 refine aA bb m109 rfl ?_;unfold vY at h;simp only[ZC,A109,ay,aH];obtain⟨d,c,h⟩:=ae h;try refine ZF trivial ?_
 refine ax (aX (aB (w_bw a b) c ?_)) ?_
 ·exact ZK (ZA @Lb.eq_1 @gP.eq_1)
 ·simp only[ZC,gP,Lp];cases h;exact ZL trivial @ay.eq_1
def sF(b:Int)(a:List Int)(v:Int):St:=⟨[(0,.sl 1000000000 0 a.length),(1,.i b),(5,.i v)],[(1000000000,.arr 1 (a.map AV.i))]⟩
theorem w_as(a:Int)(b:List Int)(g:Int)(o:Int⊕Int)(h:Cg a b g=some o):AWP (OkS Tryz.prog) px (qL [0,1,5] [1000000000] (sF a b) (qX 0 [0,1,5] [1000000000] (sF a b)) o) (sF a b g):=by
 have e:=ZA @sF.eq_1 @sF.eq_1;unfold Cg at h;simp only[ZC,sF,px];obtain⟨c,h⟩|⟨c,h⟩:=aq h
 ·obtain⟨k,i,h⟩:=ae h;obtain⟨l,j,h⟩:=ae h;obtain⟨d,h⟩|⟨d,h⟩:=aq h
  ·cases h;exact ZL (ZA c (ZA (aI i) (ZA j d))) e
  ·cases h;exact ZL (ZA c (ZA (aI i) (ZA j d))) e
 ·cases h;exact ZL c e
theorem w_fe(c:Int)(a:List Int){r:List Int}(h:Il c a=some r):OkM Tryz.prog 146 [.sl 1000000000 0 a.length,.i c] [(1000000000,.arr 1 (a.map AV.i))] (.sl 4 0 r.length) ([(4,.arr 1 (r.map AV.i))]):=by
 refine aY (lr:=[4]) bb Ti rfl rfl ?_;unfold Il at h;simp only[ZC,FI,ay];obtain⟨g,c1,h⟩:=ae h;try refine ZF trivial ?_
 refine ax (aX (aB (w_as c a) c1 ?_)) ?_
 ·exact ZK (ZA @sF.eq_1 @sF.eq_1)
 ·simp only[ZC,sF,vp];obtain⟨d1,g1,h⟩:=ae h;try refine ZF trivial ?_
  refine ax (sh:=(fun v=>⟨[(0,.sl 1000000000 0 a.length),(1,.i c),(5,.i g),(31,.b v)],[(1000000000,.arr 1 (a.map AV.i))]⟩)) (s:=d1) ?_ ?_
  ·replace h:=g1;obtain⟨l,h⟩|⟨l,h⟩:=aq h
   ·obtain⟨z1,i1,h⟩:=ae h;obtain⟨a2,j1,h⟩:=ae h;cases h;exact ZL (ZA l (ZA (aI i1) j1)) trivial
   ·cases h;exact ZL l trivial
  ·simp only[ZC,tG];obtain⟨m,h⟩|⟨m,h⟩:=aq h
   ·cases h;exact ZL m @ay.eq_1
   ·obtain⟨b2,k1,h⟩:=ae h;obtain⟨p,l1,h⟩:=aK h;have m1:sub (a.map AV.i) 0 (Int.toNat g)=p.map AV.i:=by rw[bD,l1]
    obtain⟨c2,p1,h⟩:=ae h;obtain⟨q,d,h⟩:=aK h;have q1:Row.arr 1 [(.i c:AV)]=Row.arr 1 (q.map AV.i):=by rw[<-d];rfl
    have w:q.length=1:=by rw[<-d];rfl
    obtain⟨d2,s1,h⟩:=ae h;have x:=aI s1;obtain⟨j,k,h⟩:=aK h;have t1:p.map AV.i++q.map AV.i=j.map AV.i:=by rw[<-k,List.map_append]
    have y:p.length+1=j.length:=by simp[<-d,<-k]<;>omega
    rw[y] at x;obtain⟨g2,u1,h⟩:=ae h;obtain⟨t,v1,h⟩:=aK h;have w1:sub (a.map AV.i) (Int.toNat g) (a.length-(Int.toNat g))=t.map AV.i:=by rw[bD,v1]
    obtain⟨i2,x1,h⟩:=ae h;have z:=aI x1;obtain⟨a1,u,h⟩:=aK h;have y1:j.map AV.i++t.map AV.i=a1.map AV.i:=by rw[<-u,List.map_append]
    have b1:j.length+t.length=a1.length:=by simp[<-d,<-k,<-u]<;>omega
    rw[b1] at z;cases h;exact ZL (ZA m (ZA (aI k1) (ZA m1 (ZA (aI p1) (ZA q1 (ZA w (ZA x (ZA t1 (ZA y (ZA (aI u1) (ZA w1 (ZA z (ZA y1 b1))))))))))))) (ZA @ay.eq_1 (ZA d.symm (ZA k.symm (ZA u.symm w))))
def S_v(b:List Int)(a:List (List Int))(c:Int×List Int)(v:Int×List Int):St:=⟨[(1,.lst .o 1 (b.map AV.i)),(5,.sl 5 0 a.length),(6,.sl 6 0 v.2.length),(7,.i c.1),(8,.i v.1)],[(5,.arr 1 (a.map (bI .u))),(6,.arr 1 (v.2.map AV.i))]⟩
def PF(b:List Int)(a:List (List Int))(c:Int×List Int)(v:List Int):St:=⟨[(1,.lst .o 1 (b.map AV.i)),(5,.sl 5 0 a.length),(6,.sl 6 0 v.length),(7,.i c.1)],[(5,.arr 1 (a.map (bI .u))),(6,.arr 1 (v.map AV.i))]⟩
theorem w_v(a:List Int)(b:List (List Int))(c:Int×List Int)(g:Int×List Int)(o:(Int×List Int)⊕(List Int))(h:M_v a b c g=some o):AWP (OkS Tryz.prog) He (qL [1,5,6,7,8] [5,6] (S_v a b c) (qX 2 [1,5,6,7] [5,6] (PF a b c)) o) (S_v a b c g):=by
 have e:=ZA @S_v.eq_1 @PF.eq_1;unfold M_v at h;simp only[ZC,S_v,He];obtain⟨p,i,h⟩:=ae h;obtain⟨q,j,h⟩:=ae h;obtain⟨s,k,h⟩:=ae h;obtain⟨d,h⟩|⟨d,h⟩:=aq h
 ·obtain⟨t,l,h⟩:=ae h;obtain⟨u,m,h⟩:=ae h;have f:=ZA (aL i) (ZA (aI j) (ZA k (ZA d (aL l))));refine ZF f ?_;refine ZWG f (w_fe _ _ m) [4] [4200004] ?_;cases h;exact ZL f e
 ·cases h;exact ZL (ZA (aL i) (ZA (aI j) (ZA k d))) e
def IW(b:List Int)(a:List (List Int))(v:Int×List Int):St:=⟨[(1,.lst .o 1 (b.map AV.i)),(5,.sl 5 0 a.length),(6,.sl 6 0 v.2.length),(7,.i v.1)],[(5,.arr 1 (a.map (bI .u))),(6,.arr 1 (v.2.map AV.i))]⟩
theorem w_cc(b:List Int)(a:List (List Int))(c:Int×List Int)(o:(Int×List Int)⊕(List Int))(h:Bz b a c=some o):AWP (OkS Tryz.prog) LL (qL [1,5,6,7] [5,6] (IW b a) (qX 0 [6] [6] (li)) o) (IW b a c):=by
 have e:=ZA @IW.eq_1 @li.eq_1;unfold Bz at h;simp only[ZC,IW,LL];obtain⟨d,h⟩|⟨d,h⟩:=aq h
 ·obtain⟨k,l,h⟩:=ae h;try refine ZF d ?_
  refine ax (sh:=(fun v=>⟨[(1,.lst .o 1 (b.map AV.i)),(5,.sl 5 0 a.length),(6,.sl 6 0 v.length),(7,.i c.1)],[(5,.arr 1 (a.map (bI .u))),(6,.arr 1 (v.map AV.i))]⟩)) (s:=k) ?_ ?_
  ·replace h:=l;obtain⟨m,g,h⟩:=ae h;try refine ZF d ?_
   first|refine de (aX (aB (w_v b a c) g ?_)) (fun τ j=>?_)|refine dM (aB (w_v b a c) g ?_) (fun τ j=>?_)
   ·exact ZK (ZA @S_v.eq_1 @PF.eq_1)
   ·cases h;try refine ZF trivial ?_
    refine⟨rfl,Shp.sub j (by decide) (by decide) ?_⟩;exact ZK @PF.eq_1
  ·simp only[ZC,RA];cases h;exact ZL d e
 ·cases h;exact ZL d e
theorem w_fg(a:af)(b:List Int){r:List Int}(h:Ic a b=some r):Ok Tryz.prog 73 [.agg [.lst .o 1 (a.Nodes.map AV.z),.lst .o 4 (a.Fibers.map (ai .o))],.lst .o 1 (b.map AV.i)] (.lst .u 1 (r.map AV.i)):=by
 refine aA bb m73 rfl ?_;unfold Ic at h;simp only[ZC,A73,ay,aH];obtain⟨c,d,h⟩:=ae h;refine ZF trivial ?_;refine ZUG trivial (ND _ d) ?_;obtain⟨j,g,h⟩:=ae h;try refine ZF trivial ?_
 refine ax (aX (aB (w_cc b c) g ?_)) ?_
 ·exact ZK (ZA @IW.eq_1 @li.eq_1)
 ·simp only[ZC,li,RL];cases h;exact ZL trivial @ay.eq_1
def S_y(d:List ah)(c:List Int)(b:Int×List Int)(a:ah)(v:Int×Int):St:=⟨[(1,.lst .o 10 (d.map (aj .o))),(7,.sl 7 0 c.length),(8,.sl 8 0 b.2.length),(9,.i b.1),(10,.pt 10 0 0),(13,.i v.1),(14,.i v.2)],[(7,.arr 1 (c.map AV.i)),(8,.arr 1 (b.2.map AV.i)),(10,.var (.agg [.i a.Id,.i a.Class,.i a.Work.Start,.lst .o 1 (a.Work.Fibers.map AV.i),.i a.WorkBlock.First,.i a.WorkBlock.Count,.i a.Spare.Start,.lst .o 1 (a.Spare.Fibers.map AV.i),.i a.SpareBlock.First,.i a.SpareBlock.Count]))]⟩
def PZ(c:List ah)(b:List Int)(a:Int×List Int)(v:Int):St:=⟨[(1,.lst .o 10 (c.map (aj .o))),(7,.sl 7 0 b.length),(8,.sl 8 0 a.2.length),(9,.i a.1),(13,.i v)],[(7,.arr 1 (b.map AV.i)),(8,.arr 1 (a.2.map AV.i))]⟩
theorem w_y(g:List ah)(j:List Int)(c:Int×List Int)(a:ah)(k:Int×Int)(o:(Int×Int)⊕Int)(h:M_y g c a k=some o):AWP (OkS Tryz.prog) GB (qL [1,7,8,9,10,13,14] [7,8,10] (S_y g j c a) (qX 3 [1,7,8,9,13] [7,8] (PZ g j c)) o) (S_y g j c a k):=by
 have e:=ZA @S_y.eq_1 @PZ.eq_1;unfold M_y at h;simp only[ZC,S_y,GB];obtain⟨d,h⟩|⟨d,h⟩:=aq h
 ·obtain⟨t,u,h⟩:=ae h;try refine ZF d ?_
  refine ax (sh:=(fun v=>⟨[(1,.lst .o 10 (g.map (aj .o))),(7,.sl 7 0 j.length),(8,.sl 8 0 c.2.length),(9,.i c.1),(10,.pt 10 0 0),(13,.i k.1),(14,.i k.2),(81,.b v)],[(7,.arr 1 (j.map AV.i)),(8,.arr 1 (c.2.map AV.i)),(10,.var (.agg [.i a.Id,.i a.Class,.i a.Work.Start,.lst .o 1 (a.Work.Fibers.map AV.i),.i a.WorkBlock.First,.i a.WorkBlock.Count,.i a.Spare.Start,.lst .o 1 (a.Spare.Fibers.map AV.i),.i a.SpareBlock.First,.i a.SpareBlock.Count]))]⟩)) (s:=t) ?_ ?_
  ·replace h:=u;obtain⟨y,p,h⟩:=ae h;obtain⟨z,q,h⟩:=ae h;obtain⟨l,h⟩|⟨l,h⟩:=aq h
   ·obtain⟨a1,w,h⟩:=ae h;obtain⟨b1,x,h⟩:=ae h;have f:=ZA d (ZA (aI p) (ZA q (ZA l (aL w))));refine ZF f ?_;refine ZSG f (Jh _ _ _ _ x) ?_;cases h;exact ZL f trivial
   ·cases h;exact ZL (ZA d (ZA (aI p) (ZA q l))) trivial
  ·simp only[ZC,Si];obtain⟨m,h⟩|⟨m,h⟩:=aq h
   ·cases h;exact ZL (ZA d m) e
   ·cases h;exact ZL (ZA d m) e
 ·cases h;exact ZL d e
def Hr(b:List ah)(a:List Int)(v:Int×List Int):St:=⟨[(1,.lst .o 10 (b.map (aj .o))),(7,.sl 7 0 a.length),(8,.sl 8 0 v.2.length),(9,.i v.1)],[(7,.arr 1 (a.map AV.i)),(8,.arr 1 (v.2.map AV.i))]⟩
theorem w_cg(g:List ah)(d:List Int)(a:Int×List Int)(o:(Int×List Int)⊕(List Int))(h:DK g d a=some o):AWP (OkS Tryz.prog) Ec (qL [1,7,8,9] [7,8] (Hr g d) (qX 0 [8] [8] (uw)) o) (Hr g d a):=by
 have e:=ZA @Hr.eq_1 @uw.eq_1;unfold DK at h;simp only[ZC,Hr,Ec];obtain⟨u,h⟩|⟨u,h⟩:=aq h
 ·obtain⟨c,c2,h⟩:=ae h;obtain⟨d2,g2,h⟩:=ae h;have f:=ZA u (aL c2);refine ZF f ?_;refine ZSG f (UY _ _ g2) ?_;obtain⟨i2,j2,h⟩:=ae h;refine ZF f ?_;refine ZSG f (UY _ _ j2) ?_;obtain⟨k2,l2,h⟩:=ae h;try refine ZF f ?_
  refine ax (sh:=(fun v=>⟨[(1,.lst .o 10 (g.map (aj .o))),(7,.sl 7 0 d.length),(8,.sl 8 0 a.2.length),(9,.i a.1),(10,.pt 10 0 0),(11,.b d2),(12,.b i2),(40,.b v)],[(7,.arr 1 (d.map AV.i)),(8,.arr 1 (a.2.map AV.i)),(10,.var (.agg [.i c.Id,.i c.Class,.i c.Work.Start,.lst .o 1 (c.Work.Fibers.map AV.i),.i c.WorkBlock.First,.i c.WorkBlock.Count,.i c.Spare.Start,.lst .o 1 (c.Spare.Fibers.map AV.i),.i c.SpareBlock.First,.i c.SpareBlock.Count]))]⟩)) (s:=k2) ?_ ?_
  ·replace h:=l2;obtain⟨k,h⟩|⟨k,h⟩:=aq h
   ·obtain⟨w,h⟩|⟨w,h⟩:=aq h
    ·cases h;exact ZL (ZA f (ZA k w)) trivial
    ·cases h;exact ZL (ZA f (ZA k w)) trivial
   ·cases h;exact ZL (ZA f k) trivial
  ·simp only[ZC,RD];obtain⟨j,h⟩|⟨j,h⟩:=aq h
   ·obtain⟨x,l,h⟩:=aK h;have m2:Row.arr 1 [(.i 3:AV)]=Row.arr 1 (x.map AV.i):=by rw[<-l];rfl
    have j1:x.length=1:=by rw[<-l];rfl
    obtain⟨d3,p2,h⟩:=ae h;have k1:=aI p2;obtain⟨l1,y,h⟩:=aK h;have q2:a.2.map AV.i++x.map AV.i=l1.map AV.i:=by rw[<-y,List.map_append]
    have m1:a.2.length+1=l1.length:=by simp[<-l,<-y]<;>omega
    rw[m1] at k1;cases h;exact ZL (ZA f (ZA j (ZA m2 (ZA j1 (ZA k1 (ZA q2 m1)))))) (ZA e (ZA l.symm (ZA y.symm j1)))
   ·obtain⟨m,h⟩|⟨m,h⟩:=aq h
    ·obtain⟨s2,t2,h⟩:=ae h;have f:=ZA f (ZA j m);try refine ZF f ?_
     refine ax (aX (aB (w_y g d a c) t2 ?_)) ?_
     ·exact ZK (ZA @S_y.eq_1 @PZ.eq_1)
     ·simp only[ZC,PZ,Ry];obtain⟨z,p,h⟩:=aK h;have u2:Row.arr 1 [(.i s2:AV)]=Row.arr 1 (z.map AV.i):=by rw[<-p];rfl
      have p1:z.length=1:=by rw[<-p];rfl
      obtain⟨g3,v2,h⟩:=ae h;have q1:=aI v2;obtain⟨s1,a1,h⟩:=aK h;have w2:a.2.map AV.i++z.map AV.i=s1.map AV.i:=by rw[<-a1,List.map_append]
      have t1:a.2.length+1=s1.length:=by simp[<-p,<-a1]<;>omega
      rw[t1] at q1;cases h;exact ZL (ZA f (ZA u2 (ZA p1 (ZA q1 (ZA w2 t1))))) (ZA e (ZA p.symm (ZA a1.symm p1)))
    ·obtain⟨b1,h⟩|⟨b1,h⟩:=aq h
     ·obtain⟨c1,q,h⟩:=aK h;have x2:Row.arr 1 [(.i 2:AV)]=Row.arr 1 (c1.map AV.i):=by rw[<-q];rfl
      have u1:c1.length=1:=by rw[<-q];rfl
      obtain⟨i3,y2,h⟩:=ae h;have v1:=aI y2;obtain⟨w1,d1,h⟩:=aK h;have z2:a.2.map AV.i++c1.map AV.i=w1.map AV.i:=by rw[<-d1,List.map_append]
      have x1:a.2.length+1=w1.length:=by simp[<-q,<-d1]<;>omega
      rw[x1] at v1;cases h;exact ZL (ZA f (ZA j (ZA m (ZA b1 (ZA x2 (ZA u1 (ZA v1 (ZA z2 x1)))))))) (ZA e (ZA q.symm (ZA d1.symm u1)))
     ·obtain⟨g1,t,h⟩:=aK h;have a3:Row.arr 1 [(.i 0:AV)]=Row.arr 1 (g1.map AV.i):=by rw[<-t];rfl
      have y1:g1.length=1:=by rw[<-t];rfl
      obtain⟨j3,b3,h⟩:=ae h;have z1:=aI b3;obtain⟨a2,i1,h⟩:=aK h;have c3:a.2.map AV.i++g1.map AV.i=a2.map AV.i:=by rw[<-i1,List.map_append]
      have b2:a.2.length+1=a2.length:=by simp[<-t,<-i1]<;>omega
      rw[b2] at z1;cases h;exact ZL (ZA f (ZA j (ZA m (ZA b1 (ZA a3 (ZA y1 (ZA z1 (ZA c3 b2)))))))) (ZA e (ZA t.symm (ZA i1.symm y1)))
 ·cases h;exact ZL u e
theorem w_ft(a:af)(b:List ah)(c:List Int){r:List Int}(h:Ks a b c=some r):Ok Tryz.prog 72 [.agg [.lst .o 1 (a.Nodes.map AV.z),.lst .o 4 (a.Fibers.map (ai .o))],.lst .o 10 (b.map (aj .o)),.lst .o 1 (c.map AV.i)] (.lst .u 1 (r.map AV.i)):=by
 refine aA bb m72 rfl ?_;unfold Ks at h;simp only[ZC,A72,bJ,aH];obtain⟨d,g,h⟩:=ae h;refine ZF trivial ?_;refine ZUG trivial (w_fg _ _ g) ?_;obtain⟨k,j,h⟩:=ae h;try refine ZF trivial ?_
 refine ax (aX (aB (w_cg b d) j ?_)) ?_
 ·exact ZK (ZA @Hr.eq_1 @uw.eq_1)
 ·simp only[ZC,uw,Sn];cases h;exact ZL trivial @bJ.eq_1
def IX(b:List ah)(c:List Int)(a:List Int)(v:Int×Int):St:=⟨[(1,.lst .o 10 (b.map (aj .o))),(2,.lst .o 1 (c.map AV.i)),(9,.sl 9 0 a.length),(10,.i v.1),(11,.i v.2)],[(9,.arr 1 (a.map AV.i))]⟩
def yQ(v:Int):St:=⟨[(10,.i v)],[]⟩
theorem w_ah(b:List ah)(c:List Int)(d:List Int)(i:Int×Int)(o:(Int×Int)⊕Int)(h:Bd b c d i=some o):AWP (OkS Tryz.prog) ww (qL [1,2,9,10,11] [9] (IX b c d) (qX 0 [10] [] (yQ)) o) (IX b c d i):=by
 have e:=ZA @IX.eq_1 @yQ.eq_1;unfold Bd at h;simp only[ZC,IX,ww];obtain⟨a,h⟩|⟨a,h⟩:=aq h
 ·obtain⟨m,j,h⟩:=ae h;obtain⟨p,k,h⟩:=ae h;obtain⟨g,h⟩|⟨g,h⟩:=aq h
  ·obtain⟨q,l,h⟩:=ae h;cases h;exact ZL (ZA a (ZA (aI j) (ZA k (ZA g (aL l))))) e
  ·cases h;exact ZL (ZA a (ZA (aI j) (ZA k g))) e
 ·cases h;exact ZL a e
theorem Tv(a:af)(b:List ah)(c:List Int)(d:List Int){r:Int}(h:wv a b c d=some r):Ok Tryz.prog 108 [.agg [.lst .o 1 (a.Nodes.map AV.z),.lst .o 4 (a.Fibers.map (ai .o))],.lst .o 10 (b.map (aj .o)),.lst .o 1 (c.map AV.i),.lst .o 1 (d.map AV.i)] (.i r):=by
 refine aA bb m108 rfl ?_;unfold wv at h;simp only[ZC,A108,gU,aH];obtain⟨g,j,h⟩:=ae h;refine ZF trivial ?_;refine ZUG trivial (w_ft _ _ _ j) ?_;obtain⟨l,k,h⟩:=ae h;try refine ZF trivial ?_
 refine ax (aX (aB (w_ah b c g) k ?_)) ?_
 ·exact ZK (ZA @IX.eq_1 @yQ.eq_1)
 ·simp only[ZC,yQ,Ep];cases h;exact ZL trivial @gU.eq_1
def S_t(b:af)(c:List ah)(d:List Int)(a:List Int×List Int)(v:Int×Int×Int):St:=⟨[(1,.lst .o 10 (c.map (aj .o))),(2,.lst .o 1 (d.map AV.i)),(4,.pt 4 0 0),(10,.sl 10 0 a.1.length),(11,.sl 11 0 a.2.length),(12,.i v.1),(13,.i v.2.1),(14,.i v.2.2)],[(4,.var (.agg [.lst .o 1 (b.Nodes.map AV.z),.lst .o 4 (b.Fibers.map (ai .o))])),(10,.arr 1 (a.1.map AV.i)),(11,.arr 1 (a.2.map AV.i))]⟩
def Nq(b:af)(c:List ah)(d:List Int)(a:List Int×List Int)(v:Int):St:=⟨[(1,.lst .o 10 (c.map (aj .o))),(2,.lst .o 1 (d.map AV.i)),(4,.pt 4 0 0),(10,.sl 10 0 a.1.length),(11,.sl 11 0 a.2.length),(12,.i v)],[(4,.var (.agg [.lst .o 1 (b.Nodes.map AV.z),.lst .o 4 (b.Fibers.map (ai .o))])),(10,.arr 1 (a.1.map AV.i)),(11,.arr 1 (a.2.map AV.i))]⟩
theorem w_t(a:af)(b:List ah)(c:List Int)(d:List Int×List Int)(j:Int×Int×Int)(o:(Int×Int×Int)⊕Int)(h:M_t a b c d j=some o):AWP (OkS Tryz.prog) Lk (qL [1,2,4,10,11,12,13,14] [4,10,11] (S_t a b c d) (qX 2 [1,2,4,10,11,12] [4,10,11] (Nq a b c d)) o) (S_t a b c d j):=by
 have e:=ZA @S_t.eq_1 @Nq.eq_1;unfold M_t at h;simp only[ZC,S_t,Lk];obtain⟨g,h⟩|⟨g,h⟩:=aq h
 ·obtain⟨q,k,h⟩:=ae h;obtain⟨s,l,h⟩:=ae h;obtain⟨t,m,h⟩:=ae h;have f:=ZA g (ZA (aI k) l);refine ZF f ?_;refine ZUG f (Uo _ _ m) ?_;obtain⟨u,p,h⟩:=ae h;refine ZF f ?_;refine ZSG f (Tv _ _ _ _ p) ?_;obtain⟨i,h⟩|⟨i,h⟩:=aq h
  ·cases h;exact ZL (ZA f i) e
  ·cases h;exact ZL (ZA f i) e
 ·cases h;exact ZL g e
def LU(a:af)(b:List ah)(c:List Int)(v:List Int×List Int):St:=⟨[(1,.lst .o 10 (b.map (aj .o))),(2,.lst .o 1 (c.map AV.i)),(4,.pt 4 0 0),(10,.sl 10 0 v.1.length),(11,.sl 11 0 v.2.length)],[(4,.var (.agg [.lst .o 1 (a.Nodes.map AV.z),.lst .o 4 (a.Fibers.map (ai .o))])),(10,.arr 1 (v.1.map AV.i)),(11,.arr 1 (v.2.map AV.i))]⟩
theorem w_cr(b:af)(c:List ah)(d:List Int)(a:List Int×List Int)(o:(List Int×List Int)⊕(List Int))(h:AE b c d a=some o):AWP (OkS Tryz.prog) HW (qL [1,2,4,10,11] [4,10,11] (LU b c d) (qX 0 [10] [10] (vB)) o) (LU b c d a):=by
 have e:=ZA @LU.eq_1 @vB.eq_1;unfold AE at h;simp only[ZC,LU,HW];obtain⟨j,h⟩|⟨j,h⟩:=aq h
 ·obtain⟨d1,t,h⟩:=ae h;obtain⟨g1,u,h⟩:=ae h;obtain⟨i1,v,h⟩:=ae h;have f:=ZA j (ZA (aI t) u);refine ZF f ?_;refine ZUG f (Uo _ _ v) ?_;obtain⟨j1,w,h⟩:=ae h;refine ZF f ?_;refine ZSG f (Tv _ _ _ _ w) ?_;obtain⟨x,y,h⟩:=ae h;try refine ZF f ?_
  refine ax (aX (aB (w_t b c d a) y ?_)) ?_
  ·exact ZK (ZA @S_t.eq_1 @Nq.eq_1)
  ·simp only[ZC,Nq,RU];obtain⟨k,g,h⟩:=aK h;have z:Row.arr 1 [(.i x:AV)]=Row.arr 1 (k.map AV.i):=by rw[<-g];rfl
   have m:k.length=1:=by rw[<-g];rfl
   obtain⟨k1,a1,h⟩:=ae h;have p:=aI a1;obtain⟨q,l,h⟩:=aK h;have b1:a.1.map AV.i++k.map AV.i=q.map AV.i:=by rw[<-l,List.map_append]
   have s:a.1.length+1=q.length:=by simp[<-g,<-l]<;>omega
   rw[s] at p;obtain⟨l1,c1,h⟩:=ae h;have f:=ZA f (ZA z (ZA m (ZA p (ZA b1 s))));refine ZF f ?_;refine ZUG f (Uo _ _ c1) ?_;cases h;exact ZL f (ZA e (ZA g.symm (ZA l.symm m)))
 ·cases h;exact ZL j e
theorem w_gz(a:af)(g:List ah)(j:List Int)(k:List Int){r:List Int×Bool}(h:Ik a g j k=some r):Ok Tryz.prog 31 [.agg [.lst .o 1 (a.Nodes.map AV.z),.lst .o 4 (a.Fibers.map (ai .o))],.lst .o 10 (g.map (aj .o)),.lst .o 1 (j.map AV.i),.lst .o 1 (k.map AV.i)] (.tup [.lst .u 1 (r.1.map AV.i),.b r.2]):=by
 refine aA bb m31 rfl ?_;unfold Ik at h;simp only[ZC,A31,V35,aH];obtain⟨l,m,h⟩:=ae h;try refine ZF trivial ?_
 refine ax (sh:=(fun v=>⟨[(1,.lst .o 10 (g.map (aj .o))),(2,.lst .o 1 (j.map AV.i)),(3,.lst .o 1 (k.map AV.i)),(4,.pt 4 0 0),(10,.sl 10 0 0),(27,.b v)],[(4,.var (.agg [.lst .o 1 (a.Nodes.map AV.z),.lst .o 4 (a.Fibers.map (ai .o))])),(10,.arr 1 [])]⟩)) (s:=l) ?_ ?_
 ·replace h:=m;obtain⟨x,p,h⟩:=ae h;refine ZF trivial ?_;refine ZSG trivial (w_fu _ _ _ p) ?_;obtain⟨d,h⟩|⟨d,h⟩:=aq h
  ·cases h;exact ZL d trivial
  ·obtain⟨y,q,h⟩:=ae h;refine ZF d ?_;refine ZSG d (w_ds _ _ q) ?_;cases h;exact ZL d trivial
 ·simp only[ZC,Sj];obtain⟨c,h⟩|⟨c,h⟩:=aq h
  ·cases h;exact ZL c @V35.eq_1
  ·obtain⟨a1,t,h⟩:=ae h;refine ZF c ?_;refine ZUG c (w_q _ t) ?_;obtain⟨b1,w,h⟩:=ae h;try refine ZF c ?_
   refine ax (aX (aB (w_cr a g j) w ?_)) ?_
   ·exact ZK (ZA @LU.eq_1 @vB.eq_1)
   ·simp only[ZC,vB,Sg];cases h;exact ZL c @V35.eq_1
def ED(a:List Int)(b:List Int)(v:Int):St:=⟨[(0,.lst .o 1 (a.map AV.i)),(1,.lst .o 1 (b.map AV.i)),(5,.i v)],[]⟩
theorem w_cs(c:List Int)(d:List Int)(i:Int)(o:Int⊕(Unit⊕Bool))(h:Bt c d i=some o):AWP (OkS Tryz.prog) Jn (qL [0,1,5] [] (ED c d) (qS (qX 0 [] [] (bO)) (qR ay (fun r=>.b r))) o) (ED c d i):=by
 have e:=ZA @ED.eq_1 @bO.eq_1;unfold Bt at h;simp only[ZC,ED,Jn];obtain⟨a,h⟩|⟨a,h⟩:=aq h
 ·obtain⟨l,j,h⟩:=ae h;obtain⟨m,k,h⟩:=ae h;obtain⟨g,h⟩|⟨g,h⟩:=aq h
  ·cases h;exact ZL (ZA a (ZA (aL j) (ZA (aL k) g))) @ay.eq_1
  ·cases h;exact ZL (ZA a (ZA (aL j) (ZA (aL k) g))) e
 ·cases h;exact ZL a e
theorem w_ha(c:List Int)(d:List Int){r:Bool}(h:Ee c d=some r):Ok Tryz.prog 14 [.lst .o 1 (c.map AV.i),.lst .o 1 (d.map AV.i)] (.b r):=by
 refine aA bb m14 rfl ?_;unfold Ee at h;simp only[ZC,A14,ay,aH];obtain⟨a,h⟩|⟨a,h⟩:=aq h
 ·cases h;exact ZL a @ay.eq_1
 ·obtain⟨g,j,h⟩:=ae h;try refine ZF a ?_
  refine bj (o:=g) (bq cD (aB (w_cs c d) j ?_)) (fun l hv=>?_) (fun m hv e τ hne hq=>?_)
  ·exact ZK (ZA @ED.eq_1 @bO.eq_1)
  ·subst hv;simp only[] at h;simp only[ZC,bO,Sf];cases h;exact ZL a @ay.eq_1
  ·subst hv;simp only[] at h;obtain⟨rfl,k⟩:=hq;cases h;exact k
def Ml(a:List Int)(b:Int)(v:Int):St:=⟨[(0,.lst .o 1 (a.map AV.i)),(1,.i b),(5,.i v)],[]⟩
theorem w_ct(c:List Int)(d:Int)(i:Int)(o:Int⊕(Unit⊕Bool))(h:Ci c d i=some o):AWP (OkS Tryz.prog) Ku (qL [0,1,5] [] (Ml c d) (qS (qX 0 [] [] (bO)) (qR ay (fun r=>.b r))) o) (Ml c d i):=by
 have e:=ZA @Ml.eq_1 @bO.eq_1;unfold Ci at h;simp only[ZC,Ml,Ku];obtain⟨a,h⟩|⟨a,h⟩:=aq h
 ·obtain⟨k,j,h⟩:=ae h;obtain⟨g,h⟩|⟨g,h⟩:=aq h
  ·cases h;exact ZL (ZA a (ZA (aL j) g)) @ay.eq_1
  ·cases h;exact ZL (ZA a (ZA (aL j) g)) e
 ·cases h;exact ZL a e
theorem w_hb(a:List Int)(c:Int){r:Bool}(h:KN a c=some r):Ok Tryz.prog 20 [.lst .o 1 (a.map AV.i),.i c] (.b r):=by
 refine aA bb m20 rfl ?_;unfold KN at h;simp only[ZC,A20,ay,aH];obtain⟨d,g,h⟩:=ae h;try refine ZF trivial ?_
 refine bj (o:=d) (bq cD (aB (w_ct a c) g ?_)) (fun k hv=>?_) (fun l hv e τ hne hq=>?_)
 ·exact ZK (ZA @Ml.eq_1 @bO.eq_1)
 ·subst hv;simp only[] at h;simp only[ZC,bO,Sy];cases h;exact ZL trivial @ay.eq_1
 ·subst hv;simp only[] at h;obtain⟨rfl,j⟩:=hq;cases h;exact j
theorem w_hv(d:List Int)(a:af)(g:List ah)(j:List Int)(k:Int)(l:Int)(m:Int){r:Bool×af×List ah×List Int×Int×Int×Int}(h:SL d a g j k l m=some r):OkM Tryz.prog 127 [.lst .u 1 (d.map AV.i),.pt 1000000000 0 0,.pt 1000000001 0 0,.pt 1000000002 0 0,.pt 1000000003 0 0,.pt 1000000004 0 0,.pt 1000000005 0 0] [(1000000000,.var (.agg [.lst .o 1 (((a).Nodes).map AV.z),.lst .o 4 (((a).Fibers).map (ai .o))])),(1000000001,.var (.lst .o 10 (g.map (aj .o)))),(1000000002,.var (.lst .o 1 (j.map AV.i))),(1000000003,.var (.i k)),(1000000004,.var (.i l)),(1000000005,.var (.i m))] (.b r.1) ([(1000000000,.var (.agg [.lst .o 1 (((r.2.1).Nodes).map AV.z),.lst .o 4 (((r.2.1).Fibers).map (ai .o))])),(1000000001,.var (.lst .o 10 (r.2.2.1.map (aj .o)))),(1000000002,.var (.lst .o 1 (r.2.2.2.1.map AV.i))),(1000000003,.var (.i r.2.2.2.2.1)),(1000000004,.var (.i r.2.2.2.2.2.1)),(1000000005,.var (.i r.2.2.2.2.2.2))]):=by
 refine aY (lr:=[1000000000,1000000001,1000000002,1000000003,1000000004,1000000005]) bb SQ rfl rfl ?_;unfold SL at h;simp only[ZC,IP,gU];obtain⟨t,p,h⟩:=ae h;refine ZF trivial ?_;refine ZSG trivial (NX _ _ _ _ p) ?_;obtain⟨c,h⟩|⟨c,h⟩:=aq h
 ·obtain⟨v,q,h⟩:=ae h;obtain⟨w,s,h⟩:=ae h;cases h;exact ZL (ZA c (ZA (aL q) (aL s))) @gU.eq_1
 ·cases h;exact ZL c @gU.eq_1
theorem w_hc(d:List Int)(a:af)(g:List ah)(j:List Int)(k:Int)(l:Int)(p:Int){r:Bool×af×List ah×List Int×Int×Int×Int}(h:Hu d a g j k l p=some r):OkM Tryz.prog 127 [.lst .m 1 (d.map AV.i),.pt 1000000000 0 0,.pt 1000000001 0 0,.pt 1000000002 0 0,.pt 1000000003 0 0,.pt 1000000004 0 0,.pt 1000000005 0 0] [(1000000000,.var (.agg [.lst .o 1 (((a).Nodes).map AV.z),.lst .o 4 (((a).Fibers).map (ai .o))])),(1000000001,.var (.lst .o 10 (g.map (aj .o)))),(1000000002,.var (.lst .o 1 (j.map AV.i))),(1000000003,.var (.i k)),(1000000004,.var (.i l)),(1000000005,.var (.i p))] (.b r.1) ([(1000000000,.var (.agg [.lst .o 1 (((r.2.1).Nodes).map AV.z),.lst .o 4 (((r.2.1).Fibers).map (ai .o))])),(1000000001,.var (.lst .o 10 (r.2.2.1.map (aj .o)))),(1000000002,.var (.lst .o 1 (r.2.2.2.1.map AV.i))),(1000000003,.var (.i r.2.2.2.2.1)),(1000000004,.var (.i r.2.2.2.2.2.1)),(1000000005,.var (.i r.2.2.2.2.2.2))]):=by
 refine aY (lr:=[1000000000,1000000001,1000000002,1000000003,1000000004,1000000005]) bb UE rfl rfl ?_;unfold Hu at h;simp only[ZC,Mc,gU];obtain⟨u,q,h⟩:=ae h;refine ZF trivial ?_;refine ZSG trivial (NX _ _ _ _ q) ?_;obtain⟨c,h⟩|⟨c,h⟩:=aq h
 ·obtain⟨v,s,h⟩:=ae h;obtain⟨w,t,h⟩:=ae h;cases h;exact ZL (ZA c (ZA (aL s) (aL t))) @gU.eq_1
 ·cases h;exact ZL c @gU.eq_1
def IZ(a:Int)(b:Int)(c:List Int)(v:Int×af×List ah×List Int×Int×Int×Int):St:=⟨[(1,.i a),(2,.i b),(3,.lst .m 1 (c.map AV.i)),(4,.fn 127 [.pt 1000000001 0 0,.pt 1000000002 0 0,.pt 1000000003 0 0,.pt 1000000006 0 0,.pt 1000000004 0 0,.pt 1000000005 0 0]),(11,.i v.1)],[(1000000001,.var (.agg [.lst .o 1 (((v.2.1).Nodes).map AV.z),.lst .o 4 (((v.2.1).Fibers).map (ai .o))])),(1000000002,.var (.lst .o 10 (v.2.2.1.map (aj .o)))),(1000000003,.var (.lst .o 1 (v.2.2.2.1.map AV.i))),(1000000004,.var (.i v.2.2.2.2.1)),(1000000005,.var (.i v.2.2.2.2.2.1)),(1000000006,.var (.i v.2.2.2.2.2.2))]⟩
def zR(v:af×List ah×List Int×Int×Int×Int):St:=⟨[],[(1000000001,.var (.agg [.lst .o 1 (((v.1).Nodes).map AV.z),.lst .o 4 (((v.1).Fibers).map (ai .o))])),(1000000002,.var (.lst .o 10 (v.2.1.map (aj .o)))),(1000000003,.var (.lst .o 1 (v.2.2.1.map AV.i))),(1000000004,.var (.i v.2.2.2.1)),(1000000005,.var (.i v.2.2.2.2.1)),(1000000006,.var (.i v.2.2.2.2.2))]⟩
theorem w_ao(l:Int)(c:Int)(d:Int)(a:List Int)(j:af)(m:List ah)(p:List Int)(q:Int)(s:Int)(t:Int)(c1:Int->Int->Int->List Int->af->List ah->List Int->Int->Int->Int->Option (Bool×af×List ah×List Int×Int×Int×Int))(j1:∀(l:Int)(c:Int)(d:Int)(a:List Int)(j:af)(m:List ah)(p:List Int)(q:Int)(s:Int)(t:Int){r:Bool×af×List ah×List Int×Int×Int×Int},c1 l c d a j m p q s t=some r->OkM Tryz.prog 77 [.i l,.i c,.i d,.sl 1000000000 0 a.length,.fn 127 [.pt 1000000001 0 0,.pt 1000000002 0 0,.pt 1000000003 0 0,.pt 1000000006 0 0,.pt 1000000004 0 0,.pt 1000000005 0 0]] [(1000000000,.arr 1 (a.map AV.i)),(1000000001,.var (.agg [.lst .o 1 (((j).Nodes).map AV.z),.lst .o 4 (((j).Fibers).map (ai .o))])),(1000000002,.var (.lst .o 10 (m.map (aj .o)))),(1000000003,.var (.lst .o 1 (p.map AV.i))),(1000000004,.var (.i q)),(1000000005,.var (.i s)),(1000000006,.var (.i t))] (.b r.1) ([(1000000001,.var (.agg [.lst .o 1 (((r.2.1).Nodes).map AV.z),.lst .o 4 (((r.2.1).Fibers).map (ai .o))])),(1000000002,.var (.lst .o 10 (r.2.2.1.map (aj .o)))),(1000000003,.var (.lst .o 1 (r.2.2.2.1.map AV.i))),(1000000004,.var (.i r.2.2.2.2.1)),(1000000005,.var (.i r.2.2.2.2.2.1)),(1000000006,.var (.i r.2.2.2.2.2.2))]))(u:Int×af×List ah×List Int×Int×Int×Int)(o:(Int×af×List ah×List Int×Int×Int×Int)⊕((af×List ah×List Int×Int×Int×Int)⊕(Bool×af×List ah×List Int×Int×Int×Int)))(h:BM c d a c1 u=some o):AWP (OkS Tryz.prog) rH (qL [1,2,3,4,11] [1000000001,1000000002,1000000003,1000000004,1000000005,1000000006] (IZ c d a) (qS (qX 0 [] [1000000001,1000000002,1000000003,1000000004,1000000005,1000000006] (zR)) (qM iI [1000000001,1000000002,1000000003,1000000004,1000000005,1000000006] (fun(r:Bool×af×List ah×List Int×Int×Int×Int)=>.b r.1) (fun(r:Bool×af×List ah×List Int×Int×Int×Int)=>[(1000000001,.var (.agg [.lst .o 1 (((r.2.1).Nodes).map AV.z),.lst .o 4 (((r.2.1).Fibers).map (ai .o))])),(1000000002,.var (.lst .o 10 (r.2.2.1.map (aj .o)))),(1000000003,.var (.lst .o 1 (r.2.2.2.1.map AV.i))),(1000000004,.var (.i r.2.2.2.2.1)),(1000000005,.var (.i r.2.2.2.2.2.1)),(1000000006,.var (.i r.2.2.2.2.2.2))]))) o) (IZ c d a u):=by
 have e:=ZA @IZ.eq_1 @zR.eq_1;unfold BM at h;simp only[ZC,IZ,rH];obtain⟨v,h⟩|⟨v,h⟩:=aq h
 ·have w:(0:Int)<=(a.length:Int):=Int.natCast_nonneg _;obtain⟨x,g,h⟩:=aK h;have k1:Row.arr 1 [(.i u.1:AV)]=Row.arr 1 (x.map AV.i):=by rw[<-g];rfl
  have y:x.length=1:=by rw[<-g];rfl
  obtain⟨q1,l1,h⟩:=ae h;have d1:=aI l1;obtain⟨g1,k,h⟩:=aK h;have m1:a.map AV.i++x.map AV.i=g1.map AV.i:=by rw[<-k,List.map_append]
  have i1:a.length+1=g1.length:=by simp[<-g,<-k]<;>omega
  rw[i1] at d1;have a1:(0:Nat)<1:=by decide
  obtain⟨s1,p1,h⟩:=ae h;have f:=ZA v (ZA w (ZA k1 (ZA y (ZA d1 (ZA m1 (ZA i1 a1))))));refine ZF f ?_;refine ZWG f (j1 _ _ _ _ _ _ _ _ _ _ p1) [1000000001,1000000002,1000000003,1000000004,1000000005,1000000006] [] ?_;obtain⟨b1,h⟩|⟨b1,h⟩:=aq h
  ·cases h;exact ZL (ZA f b1) (ZA @iI.eq_1 (ZA g.symm (ZA k.symm (ZA w (ZA y a1)))))
  ·cases h;exact ZL (ZA f b1) (ZA e (ZA g.symm (ZA k.symm (ZA w (ZA y a1)))))
 ·cases h;exact ZL v e
theorem VP(t:Int->Int->Int->List Int->af->List ah->List Int->Int->Int->Int->Option (Bool×af×List ah×List Int×Int×Int×Int))(u:∀(d:Int)(g:Int)(j:Int)(a:List Int)(c:af)(k:List ah)(l:List Int)(m:Int)(p:Int)(q:Int){r:Bool×af×List ah×List Int×Int×Int×Int},t d g j a c k l m p q=some r->OkM Tryz.prog 77 [.i d,.i g,.i j,.sl 1000000000 0 a.length,.fn 127 [.pt 1000000001 0 0,.pt 1000000002 0 0,.pt 1000000003 0 0,.pt 1000000006 0 0,.pt 1000000004 0 0,.pt 1000000005 0 0]] [(1000000000,.arr 1 (a.map AV.i)),(1000000001,.var (.agg [.lst .o 1 (((c).Nodes).map AV.z),.lst .o 4 (((c).Fibers).map (ai .o))])),(1000000002,.var (.lst .o 10 (k.map (aj .o)))),(1000000003,.var (.lst .o 1 (l.map AV.i))),(1000000004,.var (.i m)),(1000000005,.var (.i p)),(1000000006,.var (.i q))] (.b r.1) ([(1000000001,.var (.agg [.lst .o 1 (((r.2.1).Nodes).map AV.z),.lst .o 4 (((r.2.1).Fibers).map (ai .o))])),(1000000002,.var (.lst .o 10 (r.2.2.1.map (aj .o)))),(1000000003,.var (.lst .o 1 (r.2.2.2.1.map AV.i))),(1000000004,.var (.i r.2.2.2.2.1)),(1000000005,.var (.i r.2.2.2.2.2.1)),(1000000006,.var (.i r.2.2.2.2.2.2))]))(d:Int)(g:Int)(j:Int)(a:List Int)(c:af)(k:List ah)(l:List Int)(m:Int)(p:Int)(q:Int){r:Bool×af×List ah×List Int×Int×Int×Int}(h:tt t d g j a c k l m p q=some r):OkM Tryz.prog 77 [.i d,.i g,.i j,.sl 1000000000 0 a.length,.fn 127 [.pt 1000000001 0 0,.pt 1000000002 0 0,.pt 1000000003 0 0,.pt 1000000006 0 0,.pt 1000000004 0 0,.pt 1000000005 0 0]] [(1000000000,.arr 1 (a.map AV.i)),(1000000001,.var (.agg [.lst .o 1 (((c).Nodes).map AV.z),.lst .o 4 (((c).Fibers).map (ai .o))])),(1000000002,.var (.lst .o 10 (k.map (aj .o)))),(1000000003,.var (.lst .o 1 (l.map AV.i))),(1000000004,.var (.i m)),(1000000005,.var (.i p)),(1000000006,.var (.i q))] (.b r.1) ([(1000000001,.var (.agg [.lst .o 1 (((r.2.1).Nodes).map AV.z),.lst .o 4 (((r.2.1).Fibers).map (ai .o))])),(1000000002,.var (.lst .o 10 (r.2.2.1.map (aj .o)))),(1000000003,.var (.lst .o 1 (r.2.2.2.1.map AV.i))),(1000000004,.var (.i r.2.2.2.2.1)),(1000000005,.var (.i r.2.2.2.2.2.1)),(1000000006,.var (.i r.2.2.2.2.2.2))]):=by
 refine aY (lr:=[1000000001,1000000002,1000000003,1000000004,1000000005,1000000006]) bb VY rfl rfl ?_;unfold tt at h;simp only[ZC,Ru,iI];obtain⟨s,h⟩|⟨s,h⟩:=aq h
 ·obtain⟨a1,v,h⟩:=ae h;refine ZF s ?_;refine ZWG s (w_hc _ _ _ _ _ _ _ v) [1000000000,1000000001,1000000002,1000000003,1000000004,1000000005] [] ?_;cases h;exact ZL s @iI.eq_1
 ·obtain⟨w,x,h⟩:=ae h;try refine ZF s ?_
  refine bj (o:=w) (bq nQ (aB (w_ao d g j a c k l m p q t u) x ?_)) (fun b1 hv=>?_) (fun c1 hv e τ hne hq=>?_)
  ·exact ZK (ZA @IZ.eq_1 @zR.eq_1)
  ·subst hv;simp only[] at h;simp only[ZC,zR,zp];cases h;exact ZL s @iI.eq_1
  ·subst hv;simp only[] at h;obtain⟨rfl,y⟩:=hq;cases h;exact y
theorem w_bm:∀(n:Nat)(d:Int)(g:Int)(j:Int)(a:List Int)(c:af)(k:List ah)(l:List Int)(m:Int)(p:Int)(q:Int){r:Bool×af×List ah×List Int×Int×Int×Int}(_:nD n d g j a c k l m p q=some r),OkM Tryz.prog 77 [.i d,.i g,.i j,.sl 1000000000 0 a.length,.fn 127 [.pt 1000000001 0 0,.pt 1000000002 0 0,.pt 1000000003 0 0,.pt 1000000006 0 0,.pt 1000000004 0 0,.pt 1000000005 0 0]] [(1000000000,.arr 1 (a.map AV.i)),(1000000001,.var (.agg [.lst .o 1 (((c).Nodes).map AV.z),.lst .o 4 (((c).Fibers).map (ai .o))])),(1000000002,.var (.lst .o 10 (k.map (aj .o)))),(1000000003,.var (.lst .o 1 (l.map AV.i))),(1000000004,.var (.i m)),(1000000005,.var (.i p)),(1000000006,.var (.i q))] ((fun(r:Bool×af×List ah×List Int×Int×Int×Int)=>.b r.1) r) ((fun(r:Bool×af×List ah×List Int×Int×Int×Int)=>[(1000000001,.var (.agg [.lst .o 1 (((r.2.1).Nodes).map AV.z),.lst .o 4 (((r.2.1).Fibers).map (ai .o))])),(1000000002,.var (.lst .o 10 (r.2.2.1.map (aj .o)))),(1000000003,.var (.lst .o 1 (r.2.2.2.1.map AV.i))),(1000000004,.var (.i r.2.2.2.2.1)),(1000000005,.var (.i r.2.2.2.2.2.1)),(1000000006,.var (.i r.2.2.2.2.2.2))]) r)
 |0,d,g,j,a,c,k,l,m,p,q,_,h=>by cases h
 |n+1,d,g,j,a,c,k,l,m,p,q,_,h=>VP (nD n) (w_bm n) d g j a c k l m p q h
def Jv(a:Int)(b:Int)(c:List Int)(v:Int×af×List ah×List Int×Int×Int×Int):St:=⟨[(1,.i a),(2,.i b),(3,.lst .u 1 (c.map AV.i)),(4,.fn 127 [.pt 1000000000 0 0,.pt 1000000001 0 0,.pt 1000000002 0 0,.pt 1000000005 0 0,.pt 1000000003 0 0,.pt 1000000004 0 0]),(11,.i v.1)],[(1000000000,.var (.agg [.lst .o 1 (((v.2.1).Nodes).map AV.z),.lst .o 4 (((v.2.1).Fibers).map (ai .o))])),(1000000001,.var (.lst .o 10 (v.2.2.1.map (aj .o)))),(1000000002,.var (.lst .o 1 (v.2.2.2.1.map AV.i))),(1000000003,.var (.i v.2.2.2.2.1)),(1000000004,.var (.i v.2.2.2.2.2.1)),(1000000005,.var (.i v.2.2.2.2.2.2))]⟩
def yM(v:af×List ah×List Int×Int×Int×Int):St:=⟨[],[(1000000000,.var (.agg [.lst .o 1 (((v.1).Nodes).map AV.z),.lst .o 4 (((v.1).Fibers).map (ai .o))])),(1000000001,.var (.lst .o 10 (v.2.1.map (aj .o)))),(1000000002,.var (.lst .o 1 (v.2.2.1.map AV.i))),(1000000003,.var (.i v.2.2.2.1)),(1000000004,.var (.i v.2.2.2.2.1)),(1000000005,.var (.i v.2.2.2.2.2))]⟩
theorem w_ap(g:Int)(j:Int)(a:List Int)(k:Int×af×List ah×List Int×Int×Int×Int)(o:(Int×af×List ah×List Int×Int×Int×Int)⊕((af×List ah×List Int×Int×Int×Int)⊕(Bool×af×List ah×List Int×Int×Int×Int)))(h:Du g j a k=some o):AWP (OkS Tryz.prog) sw (qL [1,2,3,4,11] [1000000000,1000000001,1000000002,1000000003,1000000004,1000000005] (Jv g j a) (qS (qX 0 [] [1000000000,1000000001,1000000002,1000000003,1000000004,1000000005] (yM)) (qM iI [1000000000,1000000001,1000000002,1000000003,1000000004,1000000005] (fun(r:Bool×af×List ah×List Int×Int×Int×Int)=>.b r.1) (fun(r:Bool×af×List ah×List Int×Int×Int×Int)=>[(1000000000,.var (.agg [.lst .o 1 (((r.2.1).Nodes).map AV.z),.lst .o 4 (((r.2.1).Fibers).map (ai .o))])),(1000000001,.var (.lst .o 10 (r.2.2.1.map (aj .o)))),(1000000002,.var (.lst .o 1 (r.2.2.2.1.map AV.i))),(1000000003,.var (.i r.2.2.2.2.1)),(1000000004,.var (.i r.2.2.2.2.2.1)),(1000000005,.var (.i r.2.2.2.2.2.2))]))) o) (Jv g j a k):=by
 have e:=ZA @Jv.eq_1 @yM.eq_1;unfold Du at h;simp only[ZC,Jv,sw];obtain⟨l,h⟩|⟨l,h⟩:=aq h
 ·have m:(0:Int)<=(a.length:Int):=Int.natCast_nonneg _;obtain⟨p,c,h⟩:=aK h;have x:Row.arr 1 [(.i k.1:AV)]=Row.arr 1 (p.map AV.i):=by rw[<-c];rfl
  have q:p.length=1:=by rw[<-c];rfl
  obtain⟨c1,y,h⟩:=ae h;have u:=aI y;obtain⟨v,d,h⟩:=aK h;have a1:a.map AV.i++p.map AV.i=v.map AV.i:=by rw[<-d,List.map_append]
  have w:a.length+1=v.length:=by simp[<-c,<-d]<;>omega
  rw[w] at u;have s:(0:Nat)<1:=by decide
  obtain⟨d1,b1,h⟩:=ae h;have f:=ZA l (ZA m (ZA x (ZA q (ZA u (ZA a1 (ZA w s))))));refine ZF f ?_;refine ZWG f (w_bm N0 _ _ _ _ _ _ _ _ _ _ b1) [1000000001,1000000002,1000000003,1000000004,1000000005,1000000006] [] ?_;obtain⟨t,h⟩|⟨t,h⟩:=aq h
  ·cases h;exact ZL (ZA f t) (ZA @iI.eq_1 (ZA c.symm (ZA d.symm (ZA m (ZA q s)))))
  ·cases h;exact ZL (ZA f t) (ZA e (ZA c.symm (ZA d.symm (ZA m (ZA q s)))))
 ·cases h;exact ZL l e
theorem w_hd(k:Int)(c:Int)(d:Int)(g:List Int)(j:af)(l:List ah)(m:List Int)(p:Int)(q:Int)(s:Int){r:Bool×af×List ah×List Int×Int×Int×Int}(h:IJ k c d g j l m p q s=some r):OkM Tryz.prog 77 [.i k,.i c,.i d,.lst .u 1 (g.map AV.i),.fn 127 [.pt 1000000000 0 0,.pt 1000000001 0 0,.pt 1000000002 0 0,.pt 1000000005 0 0,.pt 1000000003 0 0,.pt 1000000004 0 0]] [(1000000000,.var (.agg [.lst .o 1 (((j).Nodes).map AV.z),.lst .o 4 (((j).Fibers).map (ai .o))])),(1000000001,.var (.lst .o 10 (l.map (aj .o)))),(1000000002,.var (.lst .o 1 (m.map AV.i))),(1000000003,.var (.i p)),(1000000004,.var (.i q)),(1000000005,.var (.i s))] (.b r.1) ([(1000000000,.var (.agg [.lst .o 1 (((r.2.1).Nodes).map AV.z),.lst .o 4 (((r.2.1).Fibers).map (ai .o))])),(1000000001,.var (.lst .o 10 (r.2.2.1.map (aj .o)))),(1000000002,.var (.lst .o 1 (r.2.2.2.1.map AV.i))),(1000000003,.var (.i r.2.2.2.2.1)),(1000000004,.var (.i r.2.2.2.2.2.1)),(1000000005,.var (.i r.2.2.2.2.2.2))]):=by
 refine aY (lr:=[1000000000,1000000001,1000000002,1000000003,1000000004,1000000005]) bb VW rfl rfl ?_;unfold IJ at h;simp only[ZC,Rq,iI];obtain⟨a,h⟩|⟨a,h⟩:=aq h
 ·obtain⟨y,t,h⟩:=ae h;refine ZF a ?_;refine ZWG a (w_hv _ _ _ _ _ _ _ t) [1000000000,1000000001,1000000002,1000000003,1000000004,1000000005] [] ?_;cases h;exact ZL a @iI.eq_1
 ·obtain⟨v,w,h⟩:=ae h;try refine ZF a ?_
  refine bj (o:=v) (bq nQ (aB (w_ap c d g) w ?_)) (fun a1 hv=>?_) (fun b1 hv e τ hne hq=>?_)
  ·exact ZK (ZA @Jv.eq_1 @yM.eq_1)
  ·subst hv;simp only[] at h;simp only[ZC,yM,yi];cases h;exact ZL a @iI.eq_1
  ·subst hv;simp only[] at h;obtain⟨rfl,x⟩:=hq;cases h;exact x
theorem w_he(c:af)(g:List ah)(j:List Int){r:Int×Int×Int×Bool}(h:GP c g j=some r):Ok Tryz.prog 54 [.agg [.lst .o 1 (c.Nodes.map AV.z),.lst .o 4 (c.Fibers.map (ai .o))],.lst .o 10 (g.map (aj .o)),.lst .o 1 (j.map AV.i)] (.tup [.i r.1,.i r.2.1,.i r.2.2.1,.b r.2.2.2]):=by
 refine aA bb m54 rfl ?_;unfold GP at h;simp only[ZC,A54,V54,aH];obtain⟨l,m,h⟩:=ae h;try refine ZF trivial ?_
 refine ax (sh:=(fun v=>⟨[(3,.pt 3 0 0),(4,.pt 4 0 0),(5,.pt 5 0 0),(22,.b v)],[(3,.var (.agg [.lst .o 1 (c.Nodes.map AV.z),.lst .o 4 (c.Fibers.map (ai .o))])),(4,.var (.lst .o 10 (g.map (aj .o)))),(5,.var (.lst .o 1 (j.map AV.i)))]⟩)) (s:=l) ?_ ?_
 ·replace h:=m;obtain⟨w,p,h⟩:=ae h;refine ZF trivial ?_;refine ZSG trivial (w_eo _ _ p) ?_;obtain⟨d,h⟩|⟨d,h⟩:=aq h
  ·cases h;exact ZL d trivial
  ·obtain⟨x,q,h⟩:=ae h;refine ZF d ?_;refine ZSG d (UI _ _ q) ?_;cases h;exact ZL d trivial
 ·simp only[ZC,RO];obtain⟨a,h⟩|⟨a,h⟩:=aq h
  ·cases h;exact ZL a @V54.eq_1
  ·obtain⟨y,t,h⟩:=ae h;refine ZF a ?_;refine ZUG a (Pk _ t) ?_;obtain⟨a1,u,h⟩:=ae h;refine ZF a ?_;refine ZWG a (w_hd _ _ _ _ _ _ _ _ _ _ u) [1000000000,1000000001,1000000002,1000000003,1000000004,1000000005] [] ?_;obtain⟨k,h⟩|⟨k,h⟩:=aq h
   ·cases h;exact ZL (ZA a k) @V54.eq_1
   ·cases h;exact ZL (ZA a k) @V54.eq_1
def S_u(a:af)(b:List ah)(c:List Int)(d:List (List Int))(g:Int×Int×Int×Int)(v:Int×Int×Int×Int):St:=⟨[(1,.lst .o 10 (b.map (aj .o))),(2,.lst .o 1 (c.map AV.i)),(3,.pt 3 0 0),(10,.i (d.length:Int)),(11,.i v.1),(12,.i v.2.1),(13,.i v.2.2.1),(14,.i g.2.2.2),(15,.i v.2.2.2)],[(3,.var (.agg [.lst .o 1 (a.Nodes.map AV.z),.lst .o 4 (a.Fibers.map (ai .o))]))]⟩
def NQ(a:af)(b:List ah)(c:List Int)(d:List (List Int))(g:Int×Int×Int×Int)(v:Int×Int×Int):St:=⟨[(1,.lst .o 10 (b.map (aj .o))),(2,.lst .o 1 (c.map AV.i)),(3,.pt 3 0 0),(10,.i (d.length:Int)),(11,.i v.1),(12,.i v.2.1),(13,.i v.2.2),(14,.i g.2.2.2)],[(3,.var (.agg [.lst .o 1 (a.Nodes.map AV.z),.lst .o 4 (a.Fibers.map (ai .o))]))]⟩
theorem w_u(c:af)(d:List ah)(g:List Int)(j:List (List Int))(a:Int×Int×Int×Int)(l:Int×Int×Int×Int)(o:(Int×Int×Int×Int)⊕(Int×Int×Int))(h:M_u c d g j a l=some o):AWP (OkS Tryz.prog) Mo (qL [1,2,3,10,11,12,13,14,15] [3] (S_u c d g j a) (qX 2 [1,2,3,10,11,12,13,14] [3] (NQ c d g j a)) o) (S_u c d g j a l):=by
 have e:=ZA @S_u.eq_1 @NQ.eq_1;unfold M_u at h;simp only[ZC,S_u,Mo];obtain⟨m,h⟩|⟨m,h⟩:=aq h
 ·obtain⟨k,b,h⟩:=aK h;have s:Row.arr 1 [(.i a.2.2.2:AV),(.i l.2.2.2:AV)]=Row.arr 1 (k.map AV.i):=by rw[<-b];rfl
  have p:k.length=2:=by rw[<-b];rfl
  have t:sub (k.map AV.i) 0 2=k.map AV.i:=uY _ (by simp[<-b]);obtain⟨v,u,h⟩:=ae h;have f:=ZA m (ZA s (ZA p t));refine ZF f ?_;refine ZSG f (Tv _ _ _ _ u) ?_;obtain⟨q,h⟩|⟨q,h⟩:=aq h
  ·cases h;exact ZL (ZA f q) (ZA e (ZA b.symm p))
  ·cases h;exact ZL (ZA f q) (ZA e (ZA b.symm p))
 ·cases h;exact ZL m e
def Hp(a:af)(b:List ah)(c:List Int)(d:List (List Int))(v:Int×Int×Int×Int):St:=⟨[(1,.lst .o 10 (b.map (aj .o))),(2,.lst .o 1 (c.map AV.i)),(3,.pt 3 0 0),(10,.i (d.length:Int)),(11,.i v.1),(12,.i v.2.1),(13,.i v.2.2.1),(14,.i v.2.2.2)],[(3,.var (.agg [.lst .o 1 (a.Nodes.map AV.z),.lst .o 4 (a.Fibers.map (ai .o))]))]⟩
def zX(v:Int×Int×Int):St:=⟨[(11,.i v.1),(12,.i v.2.1),(13,.i v.2.2)],[]⟩
theorem w_aq(a:af)(b:List ah)(c:List Int)(d:List (List Int))(g:Int×Int×Int×Int)(o:(Int×Int×Int×Int)⊕(Int×Int×Int))(h:Cc a b c d g=some o):AWP (OkS Tryz.prog) Jb (qL [1,2,3,10,11,12,13,14] [3] (Hp a b c d) (qX 0 [11,12,13] [] (zX)) o) (Hp a b c d g):=by
 have e:=ZA @Hp.eq_1 @zX.eq_1;unfold Cc at h;simp only[ZC,Hp,Jb];obtain⟨j,h⟩|⟨j,h⟩:=aq h
 ·obtain⟨m,p,h⟩:=ae h;try refine ZF j ?_
  refine ax (sh:=(fun v=>⟨[(1,.lst .o 10 (b.map (aj .o))),(2,.lst .o 1 (c.map AV.i)),(3,.pt 3 0 0),(10,.i (d.length:Int)),(11,.i v.1),(12,.i v.2.1),(13,.i v.2.2),(14,.i g.2.2.2)],[(3,.var (.agg [.lst .o 1 (a.Nodes.map AV.z),.lst .o 4 (a.Fibers.map (ai .o))]))]⟩)) (s:=m) ?_ ?_
  ·replace h:=p;obtain⟨q,k,h⟩:=ae h;try refine ZF j ?_
   first|refine de (aX (aB (w_u a b c d g) k ?_)) (fun τ l=>?_)|refine dM (aB (w_u a b c d g) k ?_) (fun τ l=>?_)
   ·exact ZK (ZA @S_u.eq_1 @NQ.eq_1)
   ·cases h;try refine ZF trivial ?_
    refine⟨rfl,Shp.sub l (by decide) (by decide) ?_⟩;exact ZK @NQ.eq_1
  ·simp only[ZC,RG];cases h;exact ZL j e
 ·cases h;exact ZL j e
theorem w_hf(c:af)(g:List ah)(j:List Int){r:Int×Int×Int×Bool}(h:JW c g j=some r):Ok Tryz.prog 55 [.agg [.lst .o 1 (c.Nodes.map AV.z),.lst .o 4 (c.Fibers.map (ai .o))],.lst .o 10 (g.map (aj .o)),.lst .o 1 (j.map AV.i)] (.tup [.i r.1,.i r.2.1,.i r.2.2.1,.b r.2.2.2]):=by
 refine aA bb m55 rfl ?_;unfold JW at h;simp only[ZC,A55,V54,aH];obtain⟨l,m,h⟩:=ae h;try refine ZF trivial ?_
 refine ax (sh:=(fun v=>⟨[(1,.lst .o 10 (g.map (aj .o))),(2,.lst .o 1 (j.map AV.i)),(3,.pt 3 0 0),(26,.b v)],[(3,.var (.agg [.lst .o 1 (c.Nodes.map AV.z),.lst .o 4 (c.Fibers.map (ai .o))]))]⟩)) (s:=l) ?_ ?_
 ·replace h:=m;obtain⟨x,p,h⟩:=ae h;refine ZF trivial ?_;refine ZSG trivial (VJ _ _ p) ?_;obtain⟨d,h⟩|⟨d,h⟩:=aq h
  ·cases h;exact ZL d trivial
  ·obtain⟨y,q,h⟩:=ae h;refine ZF d ?_;refine ZSG d (w_ds _ _ q) ?_;cases h;exact ZL d trivial
 ·simp only[ZC,RT];obtain⟨a,h⟩|⟨a,h⟩:=aq h
  ·cases h;exact ZL a @V54.eq_1
  ·obtain⟨t,u,h⟩:=ae h;refine ZF a ?_;refine ZUG a (ND _ u) ?_;obtain⟨a1,w,h⟩:=ae h;try refine ZF a ?_
   refine ax (aX (aB (w_aq c g j t) w ?_)) ?_
   ·exact ZK (ZA @Hp.eq_1 @zX.eq_1)
   ·simp only[ZC,zX,RS];obtain⟨k,h⟩|⟨k,h⟩:=aq h
    ·cases h;exact ZL (ZA a k) @V54.eq_1
    ·cases h;exact ZL (ZA a k) @V54.eq_1
theorem w_eq(a:af)(g:List ah)(j:List Int)(k:List Int){r:Int×Bool}(h:Dw a g j k=some r):Ok Tryz.prog 56 [.agg [.lst .o 1 (a.Nodes.map AV.z),.lst .o 4 (a.Fibers.map (ai .o))],.lst .o 10 (g.map (aj .o)),.lst .o 1 (j.map AV.i),.lst .o 1 (k.map AV.i)] (.tup [.i r.1,.b r.2]):=by
 refine aA bb m56 rfl ?_;unfold Dw at h;simp only[ZC,A56,V35,aH];obtain⟨l,m,h⟩:=ae h;try refine ZF trivial ?_
 refine ax (sh:=(fun v=>⟨[(1,.lst .o 10 (g.map (aj .o))),(2,.lst .o 1 (j.map AV.i)),(3,.lst .o 1 (k.map AV.i)),(4,.pt 4 0 0),(20,.b v)],[(4,.var (.agg [.lst .o 1 (a.Nodes.map AV.z),.lst .o 4 (a.Fibers.map (ai .o))]))]⟩)) (s:=l) ?_ ?_
 ·replace h:=m;obtain⟨u,p,h⟩:=ae h;refine ZF trivial ?_;refine ZSG trivial (w_dt _ _ _ p) ?_;obtain⟨c,h⟩|⟨c,h⟩:=aq h
  ·cases h;exact ZL c trivial
  ·obtain⟨w,q,h⟩:=ae h;refine ZF c ?_;refine ZSG c (UI _ _ q) ?_;cases h;exact ZL c trivial
 ·simp only[ZC,SF];obtain⟨d,h⟩|⟨d,h⟩:=aq h
  ·cases h;exact ZL d @V35.eq_1
  ·obtain⟨x,t,h⟩:=ae h;refine ZF d ?_;refine ZSG d (NX _ _ _ _ t) ?_;cases h;exact ZL d @V35.eq_1
def Eh(a:af×Nat×Nat×Nat×Nat×List ah×List Int×List Int)(c:List Int×Bool)(v:Int):St:=⟨[(3,.pt 3 0 0),(4,.sl 4 a.2.1 a.2.2.1),(5,.sl 5 0 a.2.2.2.2.2.2.1.length),(6,.sl 6 a.2.2.2.1 a.2.2.2.2.1),(7,.sl 7 0 c.1.length),(8,.b c.2),(11,.i v)],[(3,.var (.agg [.lst .m 1 (((a.1).Nodes).map AV.z),.lst .m 4 (((a.1).Fibers).map (ai .m))])),(4,.arr 10 (a.2.2.2.2.2.1.map (aj .m))),(5,.arr 1 (a.2.2.2.2.2.2.1.map AV.i)),(6,.arr 1 (a.2.2.2.2.2.2.2.map AV.i)),(7,.arr 1 (c.1.map AV.i))]⟩
def yV(a:af×Nat×Nat×Nat×Nat×List ah×List Int×List Int)(c:List Int×Bool)(v:Unit):St:=⟨[(3,.pt 3 0 0),(4,.sl 4 a.2.1 a.2.2.1),(5,.sl 5 0 a.2.2.2.2.2.2.1.length),(6,.sl 6 a.2.2.2.1 a.2.2.2.2.1),(7,.sl 7 0 c.1.length),(8,.b c.2)],[(3,.var (.agg [.lst .m 1 (((a.1).Nodes).map AV.z),.lst .m 4 (((a.1).Fibers).map (ai .m))])),(4,.arr 10 (a.2.2.2.2.2.1.map (aj .m))),(5,.arr 1 (a.2.2.2.2.2.2.1.map AV.i)),(6,.arr 1 (a.2.2.2.2.2.2.2.map AV.i)),(7,.arr 1 (c.1.map AV.i))]⟩
theorem w_ar(a:af×Nat×Nat×Nat×Nat×List ah×List Int×List Int)(c:List Int×Bool)(d:Int)(o:Int⊕(Unit⊕Bool))(h:Bh a c d=some o):AWP (OkS Tryz.prog) Vv (qL [3,4,5,6,7,8,11] [3,4,5,6,7] (Eh a c) (qS (qX 0 [3,4,5,6,7,8] [3,4,5,6,7] (yV a c)) (qR V10 (fun r=>.b r))) o) (Eh a c d):=by
 have e:=ZA @Eh.eq_1 @yV.eq_1;unfold Bh at h;simp only[ZC,Eh,Vv];obtain⟨l,p,h⟩:=ae h;try refine ZF trivial ?_
 refine ax (sh:=(fun v=>⟨[(3,.pt 3 0 0),(4,.sl 4 a.2.1 a.2.2.1),(5,.sl 5 0 a.2.2.2.2.2.2.1.length),(6,.sl 6 a.2.2.2.1 a.2.2.2.2.1),(7,.sl 7 0 c.1.length),(8,.b c.2),(11,.i d),(62,.b v)],[(3,.var (.agg [.lst .m 1 (((a.1).Nodes).map AV.z),.lst .m 4 (((a.1).Fibers).map (ai .m))])),(4,.arr 10 (a.2.2.2.2.2.1.map (aj .m))),(5,.arr 1 (a.2.2.2.2.2.2.1.map AV.i)),(6,.arr 1 (a.2.2.2.2.2.2.2.map AV.i)),(7,.arr 1 (c.1.map AV.i))]⟩)) (s:=l) ?_ ?_
 ·replace h:=p;obtain⟨g,h⟩|⟨g,h⟩:=aq h
  ·cases h;exact ZL g trivial
  ·cases h;exact ZL g trivial
 ·simp only[ZC,A7R2];obtain⟨j,h⟩|⟨j,h⟩:=aq h
  ·obtain⟨w,q,h⟩:=ae h;obtain⟨x,t,h⟩:=ae h;obtain⟨y,u,h⟩:=ae h;have f:=ZA j (ZA (aI q) t);refine ZF f ?_;refine ZSG f (w_hb _ _ u) ?_;obtain⟨k,h⟩|⟨k,h⟩:=aq h
   ·cases h;exact ZL (ZA f k) @V10.eq_1
   ·cases h;exact ZL (ZA f k) e
  ·cases h;exact ZL j e
theorem w_hs(d1:List Int){r:Bool}(h:Pz d1=some r):Ok Tryz.prog 7 [.lst .o 1 (d1.map AV.u8)] (.b r):=by
 have e:=@V10.eq_1;refine aA bb m7 rfl ?_;unfold Pz at h;simp only[ZC,A7,V10,aH];obtain⟨p2,g1,h⟩:=ae h;refine ZF trivial ?_;refine ZSG trivial (w_hl _ g1) ?_;obtain⟨d,h⟩|⟨d,h⟩:=aq h
 ·cases h;exact ZL d e
 ·obtain⟨a,i1,h⟩:=ae h;refine ZF d ?_;refine ZWG d (w_gr _ i1) [3,4,5] [2700003,2700004,2700005] ?_;obtain⟨j1,k1,h⟩:=aK h;have l1:sub (a.2.2.2.2.2.1.map (aj .m)) a.2.1 a.2.2.1=j1.map (aj .m):=by rw[bD,k1]
  obtain⟨m1,p1,h⟩:=aK h;have q1:sub (a.2.2.2.2.2.2.2.map AV.i) a.2.2.2.1 a.2.2.2.2.1=m1.map AV.i:=by rw[bD,p1]
  obtain⟨c,s1,h⟩:=ae h;have f:=ZA d (ZA l1 q1);refine ZF f ?_;refine ZUG f (w_gy _ _ _ _ s1) ?_;obtain⟨q2,t1,h⟩:=ae h;refine ZF f ?_;refine ZUG f (w_gz _ _ _ _ t1) ?_;obtain⟨u1,v1,h⟩:=ae h;try refine ZF f ?_
  refine ax (sh:=(fun v=>⟨[(3,.pt 3 0 0),(4,.sl 4 a.2.1 a.2.2.1),(5,.sl 5 0 a.2.2.2.2.2.2.1.length),(6,.sl 6 a.2.2.2.1 a.2.2.2.2.1),(7,.sl 7 0 c.1.length),(8,.b c.2),(55,.b v)],[(3,.var (.agg [.lst .m 1 (((a.1).Nodes).map AV.z),.lst .m 4 (((a.1).Fibers).map (ai .m))])),(4,.arr 10 (a.2.2.2.2.2.1.map (aj .m))),(5,.arr 1 (a.2.2.2.2.2.2.1.map AV.i)),(6,.arr 1 (a.2.2.2.2.2.2.2.map AV.i)),(7,.arr 1 (c.1.map AV.i))]⟩)) (s:=u1) ?_ ?_
  ·replace h:=v1;obtain⟨l,h⟩|⟨l,h⟩:=aq h
   ·cases h;exact ZL (ZA f l) trivial
   ·obtain⟨s2,w1,h⟩:=ae h;have f:=ZA f l;refine ZF f ?_;refine ZSG f (w_ha _ _ w1) ?_;cases h;exact ZL f trivial
  ·simp only[ZC,A7R1];obtain⟨p,h⟩|⟨p,h⟩:=aq h
   ·cases h;exact ZL (ZA f p) e
   ·obtain⟨x1,y1,h⟩:=ae h;have f:=ZA f p;try refine ZF f ?_
    refine bj (o:=x1) (bq cD (aB (w_ar a c) y1 ?_)) (fun t2 hv=>?_) (fun u2 hv e τ hne hq=>?_)
    ·exact ZK (ZA @Eh.eq_1 @yV.eq_1)
    ·subst hv;simp only[] at h;simp only[ZC,yV,A7R4];obtain⟨t,z1,h⟩:=ae h;refine ZF f ?_;refine ZUG f (w_he _ _ _ z1) ?_;obtain⟨v2,a2,h⟩:=ae h;refine ZF f ?_;refine ZUG f (w_hf _ _ _ a2) ?_;obtain⟨b2,c2,h⟩:=ae h;try refine ZF f ?_
     refine ax (sh:=(fun v=>⟨[(3,.pt 3 0 0),(4,.sl 4 a.2.1 a.2.2.1),(5,.sl 5 0 a.2.2.2.2.2.2.1.length),(6,.sl 6 a.2.2.2.1 a.2.2.2.2.1),(7,.sl 7 0 c.1.length),(8,.b c.2),(14,.i t.2.2.1),(15,.b t.2.2.2),(107,.b v)],[(3,.var (.agg [.lst .m 1 (((a.1).Nodes).map AV.z),.lst .m 4 (((a.1).Fibers).map (ai .m))])),(4,.arr 10 (a.2.2.2.2.2.1.map (aj .m))),(5,.arr 1 (a.2.2.2.2.2.2.1.map AV.i)),(6,.arr 1 (a.2.2.2.2.2.2.2.map AV.i)),(7,.arr 1 (c.1.map AV.i))]⟩)) (s:=b2) ?_ ?_
     ·replace h:=c2;obtain⟨g,h⟩|⟨g,h⟩:=aq h
      ·cases h;exact ZL (ZA f g) trivial
      ·obtain⟨j,h⟩|⟨j,h⟩:=aq h
       ·cases h;exact ZL (ZA f (ZA g j)) trivial
       ·obtain⟨u,h⟩|⟨u,h⟩:=aq h
        ·cases h;exact ZL (ZA f (ZA g (ZA j u))) trivial
        ·cases h;exact ZL (ZA f (ZA g (ZA j u))) trivial
     ·simp only[ZC,A7R5];obtain⟨w,h⟩|⟨w,h⟩:=aq h
      ·cases h;exact ZL (ZA f w) e
      ·obtain⟨d2,g2,h⟩:=ae h;have f:=ZA f w;try refine ZF f ?_
       refine bj (sh:=(fun v=>⟨[(6,.sl 6 a.2.2.2.1 a.2.2.2.2.1),(7,.sl 7 0 c.1.length),(8,.b c.2)],[(6,.arr 1 (a.2.2.2.2.2.2.2.map AV.i)),(7,.arr 1 (c.1.map AV.i))]⟩)) (q:=(qR V10 (fun r=>.b r))) (o:=d2) ?_ (fun w2 hv=>?_) (fun x2 hv e τ hne hq=>?_)
       ·replace h:=g2;obtain⟨i2,j2,h⟩:=ae h;try refine ZF f ?_
        refine ax (sh:=(fun v=>⟨[(3,.pt 3 0 0),(4,.sl 4 a.2.1 a.2.2.1),(5,.sl 5 0 a.2.2.2.2.2.2.1.length),(6,.sl 6 a.2.2.2.1 a.2.2.2.2.1),(7,.sl 7 0 c.1.length),(8,.b c.2),(14,.i t.2.2.1),(116,.b v)],[(3,.var (.agg [.lst .m 1 (((a.1).Nodes).map AV.z),.lst .m 4 (((a.1).Fibers).map (ai .m))])),(4,.arr 10 (a.2.2.2.2.2.1.map (aj .m))),(5,.arr 1 (a.2.2.2.2.2.2.1.map AV.i)),(6,.arr 1 (a.2.2.2.2.2.2.2.map AV.i)),(7,.arr 1 (c.1.map AV.i))]⟩)) (s:=i2) ?_ ?_
        ·replace h:=j2;obtain⟨k,h⟩|⟨k,h⟩:=aq h
         ·obtain⟨x,h⟩|⟨x,h⟩:=aq h
          ·cases h;exact ZL (ZA f (ZA k x)) trivial
          ·cases h;exact ZL (ZA f (ZA k x)) trivial
         ·cases h;exact ZL (ZA f k) trivial
        ·simp only[ZC,A7R6];obtain⟨y,h⟩|⟨y,h⟩:=aq h
         ·obtain⟨y2,k2,h⟩:=ae h;have f:=ZA f y;refine ZF f ?_;refine ZUG f (w_eq _ _ _ _ k2) ?_;obtain⟨a1,h⟩|⟨a1,h⟩:=aq h
          ·have f:=ZA f a1;try refine ZF f ?_
           simp only[ZC,UR];cases h;exact ZL f e
          ·have f:=ZA f a1;try refine ZF f ?_
           simp only[ZC,UR];obtain⟨b1,h⟩|⟨b1,h⟩:=aq h
           ·cases h;exact ZL (ZA f b1) e
           ·cases h;exact ZL (ZA f b1) trivial
         ·cases h;exact ZL (ZA f y) trivial
       ·subst hv;simp only[] at h;simp only[ZC,A7R8];obtain⟨c1,h⟩|⟨c1,h⟩:=aq h
        ·cases h;exact ZL (ZA f c1) e
        ·cases h;exact ZL (ZA f c1) e
       ·subst hv;simp only[] at h;obtain⟨rfl,l2⟩:=hq;cases h;exact l2
    ·subst hv;simp only[] at h;obtain⟨rfl,m2⟩:=hq;cases h;exact m2
end Vs

