/-
  Part of the proof that the law FnCompatible returns true at every input; no condition beside the row's own.
-/
import Derived.Test.YtfmhphgpijjejaaGreatDb
set_option linter.defProp false
set_option linter.unusedSimpArgs false
set_option linter.unusedVariables false
set_option maxHeartbeats 1000000
set_option maxRecDepth 8000
namespace Vs
open Go Go.Proofs
attribute [local irreducible] AWP eC eff sC fT callM
def MS(a:ae)(b:Int×ax)(v:Int×List Int×List Int×ax):St:=⟨[(0,.pt 1000000000 0 0),(3,.pt 3 0 0),(4,.pt 4 0 0),(6,.pt 6 0 0),(7,.sl 7 0 v.2.1.length),(8,.i v.1)],[(3,.var (.agg [.lst .m 1 (((a).Nodes).map AV.z),.lst .m 4 (((a).Fibers).map (ai .m))])),(4,.var (.agg [.i 0,.lst .u 1 []])),(6,.var (.agg [.i b.1,.sl 500000385 0 v.2.2.1.length])),(7,.arr 1 (v.2.1.map AV.i)),(500000385,.arr 1 (v.2.2.1.map AV.i)),(1000000000,.var (.agg [.lst .o 1 (((v.2.2.2).code).map AV.u8),.i ((v.2.2.2).atF),.sc (.int .u64 ((v.2.2.2).seed))]))]⟩
def AN(a:Int×ax)(v:List Int×ax):St:=⟨[(4,.pt 4 0 0),(6,.pt 6 0 0)],[(4,.var (.agg [.i 0,.lst .u 1 []])),(6,.var (.agg [.i a.1,.sl 500000385 0 v.1.length])),(500000385,.arr 1 (v.1.map AV.i)),(1000000000,.var (.agg [.lst .o 1 (((v.2).code).map AV.u8),.i ((v.2).atF),.sc (.int .u64 ((v.2).seed))]))]⟩
theorem w_ar(d:ae)(g:Int×ax)(a:Int×List Int×List Int×ax)(o:(Int×List Int×List Int×ax)⊕(List Int×ax))(h:Ix d a=some o):AWP (OkS Tryz.prog) oB (qL [0,3,4,6,7,8] [3,4,6,7,500000385,1000000000] (MS d g) (qX 0 [4,6] [4,6,500000385,1000000000] (AN g)) o) (MS d g a):=by
 have e:=ZA @MS.eq_1 @AN.eq_1;unfold Ix at h;simp only[ZC,MS,oB];obtain⟨b,h⟩|⟨b,h⟩:=aq h
 ·obtain⟨v1,a1,h⟩:=af h;try refine ZF b ?_
  refine aF (bi (aI (w_ah d g a) a1 ?_)) ?_
  ·exact ZK (ZA @JU.eq_1 @zM.eq_1)
  ·simp only[ZC,zM,uc];obtain⟨l,h⟩|⟨l,h⟩:=aq h
   ·cases h;exact ZL (ZA b l) e
   ·obtain⟨w1,b1,h⟩:=af h;have f:=ZA b l;refine ZF f ?_;refine ZWG f (w_a _ _ b1) [1000000000] [] ?_;obtain⟨y1,c1,h⟩:=af h;obtain⟨d1,g1,h⟩:=af h;obtain⟨m,c,h⟩:=aU h;have i1:Row.arr 1 [(.i d1:AV)]=Row.arr 1 (m.map AV.i):=by rw[<-c];rfl
    have s:m.length=1:=by rw[<-c];rfl
    obtain⟨z1,j1,h⟩:=af h;have t:=aW j1;obtain⟨u,j,h⟩:=aU h;have k1:a.2.2.1.map AV.i++m.map AV.i=u.map AV.i:=by rw[<-j,List.map_append]
    have v:a.2.2.1.length+1=u.length:=by simp[<-c,<-j]<;>omega
    rw[v] at t;obtain⟨a2,l1,h⟩:=af h;obtain⟨b2,m1,h⟩:=af h;obtain⟨p1,q1,h⟩:=af h;have f:=ZA f (ZA (aW c1) (ZA g1 (ZA i1 (ZA s (ZA t (ZA k1 (ZA v (ZA (aW l1) m1))))))));refine ZF f ?_;refine ZSG f (HL _ _ _ q1) ?_;obtain⟨p,k,h⟩:=aU h;have s1:Row.arr 1 [(.i p1:AV)]=Row.arr 1 (p.map AV.i):=by rw[<-k];rfl
    have w:p.length=1:=by rw[<-k];rfl
    obtain⟨c2,t1,h⟩:=af h;have x:=aW t1;obtain⟨y,q,h⟩:=aU h;have u1:a.2.1.map AV.i++p.map AV.i=y.map AV.i:=by rw[<-q,List.map_append]
    have z:a.2.1.length+1=y.length:=by simp[<-c,<-j,<-k,<-q]<;>omega
    rw[z] at x;cases h;exact ZL (ZA f (ZA s1 (ZA w (ZA x (ZA u1 z))))) (ZA e (ZA c.symm (ZA j.symm (ZA k.symm (ZA q.symm (ZA s w))))))
 ·cases h;exact ZL b e
theorem w_ex(a:ae)(b:ax){r:Int×List Int×ax}(h:Lx a b=some r):OkM Tryz.prog 208 [.pt 1000000000 0 0,.agg [.lst .m 1 (((a).Nodes).map AV.z),.lst .m 4 (((a).Fibers).map (ai .m))]] [(1000000000,.var (.agg [.lst .o 1 (((b).code).map AV.u8),.i ((b).atF),.sc (.int .u64 ((b).seed))]))] (.agg [.i r.1,.sl 500000257 0 r.2.1.length]) ([(500000257,.arr 1 (r.2.1.map AV.i)),(1000000000,.var (.agg [.lst .o 1 (((r.2.2).code).map AV.u8),.i ((r.2.2).atF),.sc (.int .u64 ((r.2.2).seed))]))]):=by
 refine aZ (lr:=[500000257,1000000000]) be Su rfl rfl ?_;unfold Lx at h;simp only[ZC,JN,mz];obtain⟨g,k,h⟩:=af h;refine ZF trivial ?_;refine ZWG trivial (w_a _ _ k) [1000000000] [] ?_;obtain⟨j,c,h⟩:=aU h;have l:Row.arr 1 [(.i g.1:AV)]=Row.arr 1 (j.map AV.i):=by rw[<-c];rfl
 have d:j.length=1:=by rw[<-c];rfl
 obtain⟨s,p,h⟩:=af h;have f:=ZA l d;refine ZF f ?_;refine ZWG f (w_a _ _ p) [1000000000] [] ?_;obtain⟨t,q,h⟩:=af h;try refine ZF f ?_
 refine aF (bi (aI (w_ar a g) q ?_)) ?_
 ·exact ZK (ZA @MS.eq_1 (ZA @AN.eq_1 (ZA c.symm d)))
 ·simp only[ZC,AN,wh];cases h;exact ZL f (ZA @mz.eq_1 d)
theorem w_dd(p:ae)(d:ax){r:Int×List Int×ax}(h:BA p d=some r):OkM Tryz.prog 152 [.pt 1000000000 0 0,.agg [.lst .m 1 (((p).Nodes).map AV.z),.lst .m 4 (((p).Fibers).map (ai .m))]] [(1000000000,.var (.agg [.lst .o 1 (((d).code).map AV.u8),.i ((d).atF),.sc (.int .u64 ((d).seed))]))] (.agg [.i r.1,.sl 500000257 0 r.2.1.length]) ([(500000257,.arr 1 (r.2.1.map AV.i)),(1000000000,.var (.agg [.lst .o 1 (((r.2.2).code).map AV.u8),.i ((r.2.2).atF),.sc (.int .u64 ((r.2.2).seed))]))]):=by
 have e:=@mz.eq_1;refine aZ (lr:=[500000257,1000000000]) be Uk rfl rfl ?_;unfold BA at h;simp only[ZC,FX,mz];obtain⟨g,i1,h⟩:=af h;refine ZF trivial ?_;refine ZWG trivial (w_ex _ _ i1) [500000257,1000000000] [500900257] ?_;obtain⟨a2,j1,h⟩:=af h;refine ZF trivial ?_;refine ZWG trivial (w_a _ _ j1) [1000000000] [] ?_;obtain⟨a,h⟩|⟨a,h⟩:=aq h
 ·obtain⟨b2,k1,h⟩:=af h;refine ZF a ?_;refine ZWG a (w_a _ _ k1) [1000000000] [] ?_;cases h;exact ZL a e
 ·obtain⟨b,h⟩|⟨b,h⟩:=aq h
  ·obtain⟨l1,m1,h⟩:=af h;have f:=ZA a b;refine ZF f ?_;refine ZWG f (w_a _ _ m1) [1000000000] [] ?_;obtain⟨q,j,h⟩:=aU h;have p1:Row.arr 1 [(.i (IntKind.wrap .i64 (l1.1-1)):AV)]=Row.arr 1 (q.map AV.i):=by rw[<-j];rfl
   have w:q.length=1:=by rw[<-j];rfl
   obtain⟨c2,q1,h⟩:=af h;have x:=aW q1;obtain⟨y,s,h⟩:=aU h;have s1:g.2.1.map AV.i++q.map AV.i=y.map AV.i:=by rw[<-s,List.map_append]
   have a1:g.2.1.length+1=y.length:=by simp[<-j,<-s]<;>omega
   rw[a1] at x;cases h;exact ZL (ZA f (ZA p1 (ZA w (ZA x (ZA s1 a1))))) (ZA e (ZA j.symm (ZA s.symm w)))
  ·obtain⟨c,h⟩|⟨c,h⟩:=aq h
   ·cases h;exact ZL (ZA a (ZA b c)) e
   ·obtain⟨k,h⟩|⟨k,h⟩:=aq h
    ·obtain⟨t,h⟩|⟨t,h⟩:=aq h
     ·obtain⟨d2,t1,h⟩:=af h;obtain⟨u1,v1,h⟩:=af h;obtain⟨u,l,h⟩:=aU h;have w1:Row.arr 1 [(.i u1:AV)]=Row.arr 1 (u.map AV.i):=by rw[<-l];rfl
      have b1:u.length=1:=by rw[<-l];rfl
      obtain⟨g2,y1,h⟩:=af h;have c1:=aW y1;obtain⟨d1,v,h⟩:=aU h;have z1:g.2.1.map AV.i++u.map AV.i=d1.map AV.i:=by rw[<-v,List.map_append]
      have g1:g.2.1.length+1=d1.length:=by simp[<-l,<-v]<;>omega
      rw[g1] at c1;cases h;exact ZL (ZA a (ZA b (ZA c (ZA k (ZA t (ZA (aW t1) (ZA v1 (ZA w1 (ZA b1 (ZA c1 (ZA z1 g1))))))))))) (ZA e (ZA l.symm (ZA v.symm b1)))
     ·cases h;exact ZL (ZA a (ZA b (ZA c (ZA k t)))) e
    ·cases h;exact ZL (ZA a (ZA b (ZA c k))) e
theorem w_de(b:ax){r:aM×ax}(h:Eu b=some r):OkM Tryz.prog 153 [.pt 1000000000 0 0] [(1000000000,.var (.agg [.lst .o 1 (((b).code).map AV.u8),.i ((b).atF),.sc (.int .u64 ((b).seed))]))] (.agg [.i ((r.1).First),.i ((r.1).Count)]) ([(1000000000,.var (.agg [.lst .o 1 (((r.2).code).map AV.u8),.i ((r.2).atF),.sc (.int .u64 ((r.2).seed))]))]):=by
 refine aZ (lr:=[1000000000]) be VC rfl rfl ?_;unfold Eu at h;simp only[ZC,My,dz];obtain⟨l,c,h⟩:=af h;refine ZF trivial ?_;refine ZWG trivial (Nv _ _ c) [1000000000] [] ?_;obtain⟨a,h⟩|⟨a,h⟩:=aq h
 ·obtain⟨m,d,h⟩:=af h;refine ZF a ?_;refine ZWG a (w_a _ _ d) [1000000000] [] ?_;obtain⟨p,g,h⟩:=af h;refine ZF a ?_;refine ZWG a (w_a _ _ g) [1000000000] [] ?_;cases h;exact ZL a @dz.eq_1
 ·obtain⟨q,j,h⟩:=af h;refine ZF a ?_;refine ZWG a (w_a _ _ j) [1000000000] [] ?_;obtain⟨s,k,h⟩:=af h;refine ZF a ?_;refine ZWG a (w_a _ _ k) [1000000000] [] ?_;cases h;exact ZL a @dz.eq_1
theorem w_fo(a:ax)(b:List ByteArray){r:ByteArray×ax×List ByteArray}(h:HB a b=some r):OkM Tryz.prog 210 [.pt 1000000000 0 0,.sl 1000000001 0 b.length] [(1000000000,.var (.agg [.lst .o 1 (((a).code).map AV.u8),.i ((a).atF),.sc (.int .u64 ((a).seed))])),(1000000001,.arr 1 (b.map AV.z))] (.z r.1) ([(1000000000,.var (.agg [.lst .o 1 (((r.2.1).code).map AV.u8),.i ((r.2.1).atF),.sc (.int .u64 ((r.2.1).seed))])),(1000000001,.arr 1 (r.2.2.map AV.z))]):=by
 refine aZ (lr:=[1000000000,1000000001]) be SU rfl rfl ?_;unfold HB at h;simp only[ZC,IX,aC];obtain⟨j,c,h⟩:=af h;refine ZF trivial ?_;refine ZWG trivial (w_a _ _ c) [1000000000] [] ?_;obtain⟨k,d,h⟩:=af h;obtain⟨l,g,h⟩:=af h;cases h;exact ZL (ZA (aW d) g) @aC.eq_1
def Kv(a:Nat×Nat×List ByteArray×List aA×ax)(v:List aA×ax):St:=⟨[(0,.pt 1000000000 0 0),(2,.pt 2 0 0),(3,.pt 3 0 0)],[(2,.var (.agg [.lst .u 1 [],.lst .u 4 []])),(3,.var (.agg [.sl 500000192 a.1 a.2.1,.sl 500000193 0 v.1.length])),(500000192,.arr 1 (a.2.2.1.map AV.z)),(500000193,.arr 4 (v.1.map (ai .u))),(1000000000,.var (.agg [.lst .o 1 (((v.2).code).map AV.u8),.i ((v.2).atF),.sc (.int .u64 ((v.2).seed))]))]⟩
def AO(a:Nat×Nat×List ByteArray×List aA×ax)(v:List aA×ax):St:=⟨[(2,.pt 2 0 0),(3,.pt 3 0 0)],[(2,.var (.agg [.lst .u 1 [],.lst .u 4 []])),(3,.var (.agg [.sl 500000192 a.1 a.2.1,.sl 500000193 0 v.1.length])),(500000192,.arr 1 (a.2.2.1.map AV.z)),(500000193,.arr 4 (v.1.map (ai .u))),(1000000000,.var (.agg [.lst .o 1 (((v.2).code).map AV.u8),.i ((v.2).atF),.sc (.int .u64 ((v.2).seed))]))]⟩
theorem w_ak(d:Nat×Nat×List ByteArray×List aA×ax)(a:List aA×ax)(o:(List aA×ax)⊕(List aA×ax))(h:Bm a=some o):AWP (OkS Tryz.prog) pe (qL [0,2,3] [2,3,500000192,500000193,1000000000] (Kv d) (qX 1 [2,3] [2,3,500000192,500000193,1000000000] (AO d)) o) (Kv d a):=by
 have e:=ZA @Kv.eq_1 @AO.eq_1;unfold Bm at h;simp only[ZC,Kv,pe];obtain⟨z,s,h⟩:=af h;refine ZF trivial ?_;refine ZWG trivial (w_a _ _ s) [1000000000] [] ?_;obtain⟨g,h⟩|⟨g,h⟩:=aq h
 ·obtain⟨a1,t,h⟩:=af h;obtain⟨b,v,h⟩:=af h;obtain⟨j,c,h⟩:=aU h;have w:Row.arr 4 [(.agg [.i b.A,.i b.B,.i b.Length,.i b.Risk]:AV)]=Row.arr 4 (j.map (ai .u)):=by rw[<-c];rfl
  have l:j.length=1:=by rw[<-c];rfl
  obtain⟨b1,x,h⟩:=af h;have m:=aW x;obtain⟨p,k,h⟩:=aU h;have y:a.1.map (ai .u)++j.map (ai .u)=p.map (ai .u):=by rw[<-k,List.map_append]
  have q:a.1.length+1=p.length:=by simp[<-c,<-k]<;>omega
  rw[q] at m;cases h;exact ZL (ZA g (ZA (aW t) (ZA v (ZA w (ZA l (ZA m (ZA y q))))))) (ZA e (ZA c.symm (ZA k.symm l)))
 ·cases h;exact ZL g e
theorem w_dy(p:ax){r:Nat×Nat×List ByteArray×List aA×ax}(h:CV p=some r):OkM Tryz.prog 154 [.pt 1000000000 0 0] [(1000000000,.var (.agg [.lst .o 1 (((p).code).map AV.u8),.i ((p).atF),.sc (.int .u64 ((p).seed))]))] (.agg [.sl 500000128 r.1 r.2.1,.sl 500000129 0 r.2.2.2.1.length]) ([(500000128,.arr 1 (r.2.2.1.map AV.z)),(500000129,.arr 4 (r.2.2.2.1.map (ai .u))),(1000000000,.var (.agg [.lst .o 1 (((r.2.2.2.2).code).map AV.u8),.i ((r.2.2.2.2).atF),.sc (.int .u64 ((r.2.2.2.2).seed))]))]):=by
 refine aZ (lr:=[500000128,500000129,1000000000]) be Uo rfl rfl ?_;unfold CV at h;simp only[ZC,JT,dz];obtain⟨c,c2,h⟩:=af h;refine ZF trivial ?_;refine ZWG trivial (w_dn _ c2) [500000128,500000129,1000000000] [500800128,500800129] ?_;obtain⟨k,h⟩|⟨k,h⟩:=aq h
 ·cases h;exact ZL k @dz.eq_1
 ·obtain⟨j1,d2,h⟩:=af h;refine ZF k ?_;refine ZWG k (w_a _ _ d2) [1000000000] [] ?_;obtain⟨a4,g2,h⟩:=af h;obtain⟨b4,i2,h⟩:=af h;obtain⟨j2,k2,h⟩:=af h;have f:=ZA k (ZA (aW g2) i2);try refine ZF f ?_
  refine bq (sh:=(fun v=>⟨[(2,.pt 2 0 0),(3,.pt 3 0 0),(4,.i j1.1),(5,.pt 5 0 0)],[(2,.var (.agg [.lst .u 1 [],.lst .u 4 []])),(3,.var (.agg [.sl 500000192 v.1 v.2.1,.sl 500000193 0 v.2.2.2.2.1.length])),(5,.var (.agg [.i ((v.2.2.1).A),.i ((v.2.2.1).B),.i ((v.2.2.1).Length),.i ((v.2.2.1).Risk)])),(500000192,.arr 1 (v.2.2.2.1.map AV.z)),(500000193,.arr 4 (v.2.2.2.2.1.map (ai .u))),(1000000000,.var (.agg [.lst .o 1 (((v.2.2.2.2.2).code).map AV.u8),.i ((v.2.2.2.2.2).atF),.sc (.int .u64 ((v.2.2.2.2.2).seed))]))]⟩)) (q:=(qM dz [500000128,500000129,1000000000] (fun(r:Nat×Nat×List ByteArray×List aA×ax)=>.agg [.sl 500000128 r.1 r.2.1,.sl 500000129 0 r.2.2.2.1.length]) (fun(r:Nat×Nat×List ByteArray×List aA×ax)=>[(500000128,.arr 1 (r.2.2.1.map AV.z)),(500000129,.arr 4 (r.2.2.2.1.map (ai .u))),(1000000000,.var (.agg [.lst .o 1 (((r.2.2.2.2).code).map AV.u8),.i ((r.2.2.2.2).atF),.sc (.int .u64 ((r.2.2.2.2).seed))]))]))) (o:=j2) ?_ (fun l hv=>?_) (fun c4 hv e τ hne hq=>?_)
  ·replace h:=k2;obtain⟨d4,l2,h⟩:=af h;refine ZF f ?_;refine ZWG f (w_a _ _ l2) [1000000000] [] ?_;obtain⟨a,h⟩|⟨a,h⟩:=aq h
   ·obtain⟨k1,x,h⟩:=aU h;have m2:Row.arr 1 [(.z (⟨#[98]⟩:ByteArray):AV),(.z (⟨#[]⟩:ByteArray):AV),(.z (⟨#[65]⟩:ByteArray):AV),(.z (⟨#[97,98,99,100,101,102,103,104]⟩:ByteArray):AV),(.z (⟨#[97,98,99,100,101,102,103,104,105]⟩:ByteArray):AV),(.z (⟨#[120,49]⟩:ByteArray):AV)]=Row.arr 1 (k1.map AV.z):=by rw[<-x];rfl
    have l1:k1.length=6:=by rw[<-x];rfl
    obtain⟨p2,q2,h⟩:=af h;have f:=ZA f (ZA a (ZA m2 l1));refine ZF f ?_;refine ZWG f (w_fo _ _ q2) [1000000000,1000000001] [] ?_;obtain⟨g4,s2,h⟩:=af h;obtain⟨i4,t2,h⟩:=af h;obtain⟨u2,m1,h⟩:=aU h;have v2:(c.2.2.1.map AV.z).set (c.1+(Int.toNat 0)) (.z p2.1)=u2.map AV.z:=by rw[<-m1,List.map_set]
    cases h;exact ZL (ZA f (ZA (aW s2) (ZA t2 v2))) (ZA x.symm (ZA m1.symm l1))
   ·obtain⟨b,h⟩|⟨b,h⟩:=aq h
    ·obtain⟨j4,w2,h⟩:=af h;have f:=ZA f (ZA a b);refine ZF f ?_;refine ZWG f (w_a _ _ w2) [1000000000] [] ?_;cases h;exact ZL f trivial
    ·obtain⟨d,h⟩|⟨d,h⟩:=aq h
     ·obtain⟨k4,x2,h⟩:=af h;have f:=ZA f (ZA a (ZA b d));refine ZF f ?_;refine ZWG f (w_a _ _ x2) [1000000000] [] ?_;cases h;exact ZL f trivial
     ·obtain⟨g,h⟩|⟨g,h⟩:=aq h
      ·obtain⟨p1,y,h⟩:=aU h;have y2:Row.arr 1 [(.i 0:AV),(.i 1:AV),(.i 5000:AV),(.i 5001:AV)]=Row.arr 1 (p1.map AV.i):=by rw[<-y];rfl
       have q1:p1.length=4:=by rw[<-y];rfl
       obtain⟨l4,z2,h⟩:=af h;have f:=ZA f (ZA a (ZA b (ZA d (ZA g (ZA y2 q1)))));refine ZF f ?_;refine ZWG f (w_e _ _ z2) [1000000000,1000000001] [] ?_;cases h;exact ZL f (ZA y.symm q1)
      ·obtain⟨j,h⟩|⟨j,h⟩:=aq h
       ·obtain⟨s1,a1,h⟩:=aU h;have a3:Row.arr 1 [(.i (-1):AV),(.i 9:AV),(.i 10:AV)]=Row.arr 1 (s1.map AV.i):=by rw[<-a1];rfl
        have t1:s1.length=3:=by rw[<-a1];rfl
        obtain⟨m4,b3,h⟩:=af h;have f:=ZA f (ZA a (ZA b (ZA d (ZA g (ZA j (ZA a3 t1))))));refine ZF f ?_;refine ZWG f (w_e _ _ b3) [1000000000,1000000001] [] ?_;cases h;exact ZL f (ZA a1.symm t1)
       ·obtain⟨m,h⟩|⟨m,h⟩:=aq h
        ·obtain⟨p4,c3,h⟩:=af h;obtain⟨s,d3,h⟩:=af h;obtain⟨b1,t,h⟩:=aU h;have g3:Row.arr 4 [(.agg [.i s.A,.i s.B,.i s.Length,.i s.Risk]:AV)]=Row.arr 4 (b1.map (ai .u)):=by rw[<-t];rfl
         have u1:b1.length=1:=by rw[<-t];rfl
         obtain⟨q4,i3,h⟩:=af h;have v1:=aW i3;obtain⟨w1,c1,h⟩:=aU h;have j3:c.2.2.2.1.map (ai .u)++b1.map (ai .u)=w1.map (ai .u):=by rw[<-c1,List.map_append]
         have y1:c.2.2.2.1.length+1=w1.length:=by simp[<-t,<-c1]<;>omega
         rw[y1] at v1;cases h;exact ZL (ZA f (ZA a (ZA b (ZA d (ZA g (ZA j (ZA m (ZA (aW c3) (ZA d3 (ZA g3 (ZA u1 (ZA v1 (ZA j3 y1))))))))))))) (ZA t.symm (ZA c1.symm u1))
        ·obtain⟨w,h⟩|⟨w,h⟩:=aq h
         ·obtain⟨s4,k3,h⟩:=af h;have f:=ZA f (ZA a (ZA b (ZA d (ZA g (ZA j (ZA m w))))));try refine ZF f ?_
          refine aF (bi (aI (w_ak c) k3 ?_)) ?_
          ·exact ZK (ZA @Kv.eq_1 @AO.eq_1)
          ·simp only[ZC,AO,vt];cases h;exact ZL f @dz.eq_1
         ·obtain⟨d1,h⟩|⟨d1,h⟩:=aq h
          ·obtain⟨g1,i1,h⟩:=aU h;have l3:Row.arr 1 [(.z (⟨#[112]⟩:ByteArray):AV),(.z (⟨#[113]⟩:ByteArray):AV),(.z (⟨#[114]⟩:ByteArray):AV),(.z (⟨#[115]⟩:ByteArray):AV)]=Row.arr 1 (g1.map AV.z):=by rw[<-i1];rfl
           have z1:g1.length=4:=by rw[<-i1];rfl
           obtain⟨a2,m3,h⟩:=aU h;have p3:sub (c.2.2.1.map AV.z) c.1 c.2.1=a2.map AV.z:=by rw[bQ,m3]
           obtain⟨t4,q3,h⟩:=af h;obtain⟨s3,t3,h⟩:=aU h;have u3:a2.map AV.z++g1.map AV.z=s3.map AV.z:=by rw[<-t3,List.map_append]
           cases h;exact ZL (ZA f (ZA a (ZA b (ZA d (ZA g (ZA j (ZA m (ZA w (ZA d1 (ZA l3 (ZA z1 (ZA p3 (ZA (aW q3) u3))))))))))))) (ZA i1.symm z1)
          ·cases h;exact ZL (ZA f (ZA a (ZA b (ZA d (ZA g (ZA j (ZA m (ZA w d1)))))))) trivial
  ·subst hv;simp only[] at h;simp only[ZC,tW];obtain⟨u4,v3,h⟩:=af h;obtain⟨v4,w3,h⟩:=af h;obtain⟨x3,b2,h⟩:=aU h;have y3:(l.2.2.2.2.1.map (ai .u)).set (Int.toNat j1.1) (.agg [.i ((l.2.2.1).A),.i ((l.2.2.1).B),.i ((l.2.2.1).Length),.i ((l.2.2.1).Risk)])=x3.map (ai .u):=by rw[<-b2,List.map_set];rfl
   cases h;exact ZL (ZA f (ZA (aW v3) (ZA w3 y3))) (ZA @dz.eq_1 b2.symm)
  ·subst hv;simp only[] at h;obtain⟨rfl,z3⟩:=hq;cases h;exact z3
theorem w_df(q:ax){r:ae×Nat×Nat×List aj×ax}(h:DA q=some r):OkM Tryz.prog 82 [.pt 1000000000 0 0] [(1000000000,.var (.agg [.lst .o 1 (((q).code).map AV.u8),.i ((q).atF),.sc (.int .u64 ((q).seed))]))] (.tup [.agg [.lst .m 1 (((r.1).Nodes).map AV.z),.lst .m 4 (((r.1).Fibers).map (ai .m))],.sl 3 r.2.1 r.2.2.1]) ([(3,.arr 10 (r.2.2.2.1.map (aw .m))),(1000000000,.var (.agg [.lst .o 1 (((r.2.2.2.2).code).map AV.u8),.i ((r.2.2.2.2).atF),.sc (.int .u64 ((r.2.2.2.2).seed))]))]):=by
 refine aZ (lr:=[3,1000000000]) be Wa rfl rfl ?_;unfold DA at h;simp only[ZC,RT,kT];obtain⟨w,m1,h⟩:=af h;refine ZF trivial ?_;refine ZWG trivial (w_ew _ m1) [3,1000000000] [1100003] ?_;obtain⟨l,h⟩|⟨l,h⟩:=aq h
 ·cases h;exact ZL l @kT.eq_1
 ·obtain⟨d1,p1,h⟩:=af h;refine ZF l ?_;refine ZWG l (w_a _ _ p1) [1000000000] [] ?_;obtain⟨y2,q1,h⟩:=af h;obtain⟨b,s1,h⟩:=af h;obtain⟨a,t1,h⟩:=af h;have f:=ZA l (ZA (aW q1) s1);try refine ZF f ?_
  refine aF (sh:=(fun v=>⟨[(2,.pt 2 0 0),(4,.pt 4 0 0),(5,.sl 5 v.1 v.2.1),(6,.i d1.1),(7,.pt 7 0 0)],[(2,.var (.agg [.lst .u 1 [],.lst .u 4 []])),(4,.var (.agg [.lst .m 1 (((v.2.2.1).Nodes).map AV.z),.lst .m 4 (((v.2.2.1).Fibers).map (ai .m))])),(5,.arr 10 (v.2.2.2.1.map (aw .m))),(7,.var (.agg [.i ((v.2.2.2.2.1).Id),.i ((v.2.2.2.2.1).Class),.i (((v.2.2.2.2.1).Work).Start),.lst .m 1 ((((v.2.2.2.2.1).Work).Fibers).map AV.i),.i (((v.2.2.2.2.1).WorkBlock).First),.i (((v.2.2.2.2.1).WorkBlock).Count),.i (((v.2.2.2.2.1).Spare).Start),.lst .m 1 ((((v.2.2.2.2.1).Spare).Fibers).map AV.i),.i (((v.2.2.2.2.1).SpareBlock).First),.i (((v.2.2.2.2.1).SpareBlock).Count)])),(1000000000,.var (.agg [.lst .o 1 (((v.2.2.2.2.2).code).map AV.u8),.i ((v.2.2.2.2.2).atF),.sc (.int .u64 ((v.2.2.2.2.2).seed))]))]⟩)) (s:=a) ?_ ?_
  ·replace h:=t1;obtain⟨z2,u1,h⟩:=af h;refine ZF f ?_;refine ZWG f (w_a _ _ u1) [1000000000] [] ?_;obtain⟨c,h⟩|⟨c,h⟩:=aq h
   ·obtain⟨g1,x,h⟩:=aU h;have v1:Row.arr 1 [(.i 0:AV),(.i 999:AV),(.i 1000:AV),(.i 500:AV),(.i 1:AV)]=Row.arr 1 (g1.map AV.i):=by rw[<-x];rfl
    have i1:g1.length=5:=by rw[<-x];rfl
    obtain⟨a3,w1,h⟩:=af h;have f:=ZA f (ZA c (ZA v1 i1));refine ZF f ?_;refine ZWG f (w_e _ _ w1) [1000000000,1000000001] [] ?_;cases h;exact ZL f (ZA x.symm i1)
   ·obtain⟨d,h⟩|⟨d,h⟩:=aq h
    ·obtain⟨b3,y1,h⟩:=af h;have f:=ZA f (ZA c d);refine ZF f ?_;refine ZWG f (w_a _ _ y1) [1000000000] [] ?_;cases h;exact ZL f trivial
    ·obtain⟨g,h⟩|⟨g,h⟩:=aq h
     ·obtain⟨c3,z1,h⟩:=af h;have f:=ZA f (ZA c (ZA d g));refine ZF f ?_;refine ZWG f (w_dd _ _ z1) [500000257,1000000000] [504500257] ?_;cases h;exact ZL f trivial
     ·obtain⟨j,h⟩|⟨j,h⟩:=aq h
      ·obtain⟨d3,a2,h⟩:=af h;have f:=ZA f (ZA c (ZA d (ZA g j)));refine ZF f ?_;refine ZWG f (w_de _ a2) [1000000000] [] ?_;cases h;exact ZL f trivial
      ·obtain⟨k,h⟩|⟨k,h⟩:=aq h
       ·obtain⟨g3,b2,h⟩:=af h;have f:=ZA f (ZA c (ZA d (ZA g (ZA j k))));refine ZF f ?_;refine ZWG f (w_dd _ _ b2) [500000257,1000000000] [505600257] ?_;cases h;exact ZL f trivial
       ·obtain⟨p,h⟩|⟨p,h⟩:=aq h
        ·obtain⟨i3,c2,h⟩:=af h;have f:=ZA f (ZA c (ZA d (ZA g (ZA j (ZA k p)))));refine ZF f ?_;refine ZWG f (w_de _ c2) [1000000000] [] ?_;cases h;exact ZL f trivial
        ·obtain⟨t,h⟩|⟨t,h⟩:=aq h
         ·obtain⟨y,a1,h⟩:=aU h;have d2:Row.arr 10 [(.agg [.i b.Id,.i b.Class,.i b.Work.Start,.lst .m 1 (b.Work.Fibers.map AV.i),.i b.WorkBlock.First,.i b.WorkBlock.Count,.i b.Spare.Start,.lst .m 1 (b.Spare.Fibers.map AV.i),.i b.SpareBlock.First,.i b.SpareBlock.Count]:AV)]=Row.arr 10 (y.map (aw .m)):=by rw[<-a1];rfl
          have j1:y.length=1:=by rw[<-a1];rfl
          obtain⟨k1,g2,h⟩:=aU h;have i2:sub (w.2.2.2.1.map (aw .m)) w.2.1 w.2.2.1=k1.map (aw .m):=by rw[bQ,g2]
          obtain⟨j3,j2,h⟩:=af h;obtain⟨k2,l2,h⟩:=aU h;have m2:k1.map (aw .m)++y.map (aw .m)=k2.map (aw .m):=by rw[<-l2,List.map_append]
          cases h;exact ZL (ZA f (ZA c (ZA d (ZA g (ZA j (ZA k (ZA p (ZA t (ZA d2 (ZA j1 (ZA i2 (ZA (aW j2) m2)))))))))))) (ZA a1.symm j1)
         ·obtain⟨b1,h⟩|⟨b1,h⟩:=aq h
          ·obtain⟨c1,p2,h⟩:=af h;have f:=ZA f (ZA c (ZA d (ZA g (ZA j (ZA k (ZA p (ZA t b1)))))));refine ZF f ?_;refine ZWG f (w_dy _ p2) [500000128,500000129,1000000000] [507200128,507200129] ?_;obtain⟨q2,s2,h⟩:=aU h;have t2:sub (c1.2.2.1.map AV.z) c1.1 c1.2.1=q2.map AV.z:=by rw[bQ,s2]
           cases h;exact ZL (ZA f t2) trivial
          ·cases h;exact ZL (ZA f (ZA c (ZA d (ZA g (ZA j (ZA k (ZA p (ZA t b1)))))))) trivial
  ·simp only[ZC,Ag];obtain⟨k3,u2,h⟩:=af h;obtain⟨l3,v2,h⟩:=af h;obtain⟨w2,l1,h⟩:=aU h;have x2:(a.2.2.2.1.map (aw .m)).set (a.1+(Int.toNat d1.1)) (.agg [.i ((a.2.2.2.2.1).Id),.i ((a.2.2.2.2.1).Class),.i (((a.2.2.2.2.1).Work).Start),.lst .m 1 ((((a.2.2.2.2.1).Work).Fibers).map AV.i),.i (((a.2.2.2.2.1).WorkBlock).First),.i (((a.2.2.2.2.1).WorkBlock).Count),.i (((a.2.2.2.2.1).Spare).Start),.lst .m 1 ((((a.2.2.2.2.1).Spare).Fibers).map AV.i),.i (((a.2.2.2.2.1).SpareBlock).First),.i (((a.2.2.2.2.1).SpareBlock).Count)])=w2.map (aw .m):=by rw[<-l1,List.map_set];rfl
   cases h;exact ZL (ZA f (ZA (aW u2) (ZA v2 x2))) (ZA @kT.eq_1 l1.symm)
def IY(v:Nat×Nat×Int×ae×List aj×ax):St:=⟨[(2,.pt 2 0 0),(3,.pt 3 0 0),(4,.pt 4 0 0),(5,.pt 13 0 0),(6,.pt 6 0 0),(7,.sl 7 v.1 v.2.1),(8,.i v.2.2.1)],[(2,.var (.agg [.lst .u 1 [],.lst .u 4 []])),(3,.var (.agg [.i 0,.i 0,.i 0,.lst .u 1 [],.i 0,.i 0,.i 0,.lst .u 1 [],.i 0,.i 0])),(4,.var (.agg [.i 0,.i 0,.i 0,.lst .u 1 [],.i 0,.i 0,.i 0,.lst .u 1 [],.i 0,.i 0])),(6,.var (.agg [.lst .m 1 (((v.2.2.2.1).Nodes).map AV.z),.lst .m 4 (((v.2.2.2.1).Fibers).map (ai .m))])),(7,.arr 10 (v.2.2.2.2.1.map (aw .m))),(13,.var (.agg [.lst .o 1 (((v.2.2.2.2.2).code).map AV.u8),.i ((v.2.2.2.2.2).atF),.sc (.int .u64 ((v.2.2.2.2.2).seed))]))]⟩
def yY(v:Nat×Nat×ae×List aj×ax):St:=⟨[(2,.pt 2 0 0),(3,.pt 3 0 0),(4,.pt 4 0 0),(5,.pt 13 0 0),(6,.pt 6 0 0),(7,.sl 7 v.1 v.2.1)],[(2,.var (.agg [.lst .u 1 [],.lst .u 4 []])),(3,.var (.agg [.i 0,.i 0,.i 0,.lst .u 1 [],.i 0,.i 0,.i 0,.lst .u 1 [],.i 0,.i 0])),(4,.var (.agg [.i 0,.i 0,.i 0,.lst .u 1 [],.i 0,.i 0,.i 0,.lst .u 1 [],.i 0,.i 0])),(6,.var (.agg [.lst .m 1 (((v.2.2.1).Nodes).map AV.z),.lst .m 4 (((v.2.2.1).Fibers).map (ai .m))])),(7,.arr 10 (v.2.2.2.1.map (aw .m))),(13,.var (.agg [.lst .o 1 (((v.2.2.2.2).code).map AV.u8),.i ((v.2.2.2.2).atF),.sc (.int .u64 ((v.2.2.2.2).seed))]))]⟩
theorem w_ax(a:Nat×Nat×Int×ae×List aj×ax)(o:(Nat×Nat×Int×ae×List aj×ax)⊕(Nat×Nat×ae×List aj×ax))(h:FW a=some o):AWP (OkS Tryz.prog) tJ (qL [2,3,4,5,6,7,8] [2,3,4,6,7,13] (IY) (qX 0 [2,3,4,5,6,7] [2,3,4,6,7,13] (yY)) o) (IY a):=by
 have e:=ZA @IY.eq_1 @yY.eq_1;unfold FW at h;simp only[ZC,IY,tJ];obtain⟨g,j,h⟩:=af h;try refine ZF trivial ?_
 refine aF (sh:=(fun v=>⟨[(2,.pt 2 0 0),(3,.pt 3 0 0),(4,.pt 4 0 0),(5,.pt 13 0 0),(6,.pt 6 0 0),(7,.sl 7 a.1 a.2.1),(8,.i a.2.2.1),(25,.b v)],[(2,.var (.agg [.lst .u 1 [],.lst .u 4 []])),(3,.var (.agg [.i 0,.i 0,.i 0,.lst .u 1 [],.i 0,.i 0,.i 0,.lst .u 1 [],.i 0,.i 0])),(4,.var (.agg [.i 0,.i 0,.i 0,.lst .u 1 [],.i 0,.i 0,.i 0,.lst .u 1 [],.i 0,.i 0])),(6,.var (.agg [.lst .m 1 (((a.2.2.2.1).Nodes).map AV.z),.lst .m 4 (((a.2.2.2.1).Fibers).map (ai .m))])),(7,.arr 10 (a.2.2.2.2.1.map (aw .m))),(13,.var (.agg [.lst .o 1 (((a.2.2.2.2.2).code).map AV.u8),.i ((a.2.2.2.2.2).atF),.sc (.int .u64 ((a.2.2.2.2.2).seed))]))]⟩)) (s:=g) ?_ ?_
 ·replace h:=j;obtain⟨d,h⟩|⟨d,h⟩:=aq h
  ·cases h;exact ZL d trivial
  ·cases h;exact ZL d trivial
 ·simp only[ZC,zi];obtain⟨c,h⟩|⟨c,h⟩:=aq h
  ·obtain⟨l,k,h⟩:=af h;refine ZF c ?_;refine ZWG c (w_df _ k) [3,1000000000] [3100003] ?_;cases h;exact ZL c e
  ·cases h;exact ZL c e
theorem w_fp(c:List Int){r:ae×aj×aj}(h:Kd c=some r):OkM Tryz.prog 57 [.lst .o 1 (c.map AV.u8)] [] (.tup [.agg [.lst .m 1 (((r.1).Nodes).map AV.z),.lst .m 4 (((r.1).Fibers).map (ai .m))],.agg [.i ((r.2.1).Id),.i ((r.2.1).Class),.i (((r.2.1).Work).Start),.lst .m 1 ((((r.2.1).Work).Fibers).map AV.i),.i (((r.2.1).WorkBlock).First),.i (((r.2.1).WorkBlock).Count),.i (((r.2.1).Spare).Start),.lst .m 1 ((((r.2.1).Spare).Fibers).map AV.i),.i (((r.2.1).SpareBlock).First),.i (((r.2.1).SpareBlock).Count)],.agg [.i ((r.2.2).Id),.i ((r.2.2).Class),.i (((r.2.2).Work).Start),.lst .m 1 ((((r.2.2).Work).Fibers).map AV.i),.i (((r.2.2).WorkBlock).First),.i (((r.2.2).WorkBlock).Count),.i (((r.2.2).Spare).Start),.lst .m 1 ((((r.2.2).Spare).Fibers).map AV.i),.i (((r.2.2).SpareBlock).First),.i (((r.2.2).SpareBlock).Count)]]) ([]):=by
 refine aZ (lr:=[]) be VR rfl rfl ?_;unfold Kd at h;simp only[ZC,RN,ug];obtain⟨u,d,h⟩:=af h;refine ZF trivial ?_;refine ZWG trivial (w_df _ d) [3,1000000000] [1700003] ?_;obtain⟨v,g,h⟩:=af h;try refine ZF trivial ?_
 refine aF (bi (aI (w_ax) g ?_)) ?_
 ·exact ZK (ZA @IY.eq_1 @yY.eq_1)
 ·simp only[ZC,yY,AQ];obtain⟨a,h⟩|⟨a,h⟩:=aq h
  ·cases h;exact ZL a @ug.eq_1
  ·obtain⟨w,j,h⟩:=af h;refine ZF a ?_;refine ZWG a (w_a _ _ j) [1000000000] [] ?_;obtain⟨x,k,h⟩:=af h;obtain⟨y,l,h⟩:=af h;obtain⟨a1,p,h⟩:=af h;have f:=ZA a (ZA (aW k) l);refine ZF f ?_;refine ZWG f (w_a _ _ p) [1000000000] [] ?_;obtain⟨b1,q,h⟩:=af h;obtain⟨c1,s,h⟩:=af h;obtain⟨d1,t,h⟩:=af h;have f:=ZA f (ZA (aW q) s);refine ZF f ?_;refine ZWG f (Nv _ _ t) [1000000000] [] ?_;obtain⟨b,h⟩|⟨b,h⟩:=aq h
   ·cases h;exact ZL (ZA f b) @ug.eq_1
   ·cases h;exact ZL (ZA f b) @ug.eq_1
theorem w_d(c:Int)(d:Int)(g:Int){r:Bool}(h:M_d c d g=some r):Ok Tryz.prog 76 [.i c,.i d,.i g] (.b r):=by
 refine aB be m76 rfl ?_;unfold M_d at h;simp only[ZC,A76,cx,aL];obtain⟨a,h⟩|⟨a,h⟩:=aq h
 ·cases h;exact ZL a @cx.eq_1
 ·cases h;exact ZL a @cx.eq_1
def Fo(a:ByteArray)(v:Int):St:=⟨[(0,.z a),(7,.i (a.size:Int)),(8,.i v)],[]⟩
def zP(a:ByteArray)(v:Unit):St:=⟨[(0,.z a)],[]⟩
theorem w_al(c:ByteArray)(j:Int)(o:Int⊕(Unit⊕Bool))(h:Et c j=some o):AWP (OkS Tryz.prog) yJ (qL [0,7,8] [] (Fo c) (qS (qX 0 [0] [] (zP c)) (qR V10 (fun r=>.b r))) o) (Fo c j):=by
 have e:=ZA @Fo.eq_1 @zP.eq_1;unfold Et at h;simp only[ZC,Fo,yJ];obtain⟨a,h⟩|⟨a,h⟩:=aq h
 ·obtain⟨t,u,h⟩:=af h;try refine ZF a ?_
  refine aF (sh:=(fun v=>⟨[(0,.z c),(3,.i j),(4,.b v.1),(5,.b v.2),(7,.i (c.size:Int)),(8,.i j)],[]⟩)) (s:=t) ?_ ?_
  ·replace h:=u;obtain⟨w,k,h⟩:=af h;obtain⟨d,h⟩|⟨d,h⟩:=aq h
   ·obtain⟨m,h⟩|⟨m,h⟩:=aq h
    ·cases h;exact ZL (ZA a (ZA (jy k) (ZA d m))) trivial
    ·cases h;exact ZL (ZA a (ZA (jy k) (ZA d m))) trivial
   ·obtain⟨p,h⟩|⟨p,h⟩:=aq h
    ·cases h;exact ZL (ZA a (ZA (jy k) (ZA d p))) trivial
    ·cases h;exact ZL (ZA a (ZA (jy k) (ZA d p))) trivial
  ·simp only[ZC,GP];obtain⟨g,h⟩|⟨g,h⟩:=aq h
   ·obtain⟨l,h⟩|⟨l,h⟩:=aq h
    ·cases h;exact ZL (ZA a (ZA g l)) @V10.eq_1
    ·obtain⟨q,h⟩|⟨q,h⟩:=aq h
     ·cases h;exact ZL (ZA a (ZA g (ZA l q))) @V10.eq_1
     ·cases h;exact ZL (ZA a (ZA g (ZA l q))) e
   ·cases h;exact ZL (ZA a g) e
 ·cases h;exact ZL a e
theorem w_fq(a:ByteArray){r:Bool}(h:JQ a=some r):Ok Tryz.prog 147 [.z a] (.b r):=by
 refine aB be m147 rfl ?_;unfold JQ at h;simp only[ZC,A147,V10,aL];obtain⟨c,d,h⟩:=af h;try refine ZF trivial ?_
 refine bq (o:=c) (bA dc (aI (w_al a) d ?_)) (fun j hv=>?_) (fun k hv e τ hne hq=>?_)
 ·exact ZK (ZA @Fo.eq_1 @zP.eq_1)
 ·subst hv;simp only[] at h;simp only[ZC,zP,KG];obtain⟨l,g,h⟩:=af h;refine ZF trivial ?_;refine ZSG trivial (w_d _ _ _ g) ?_;cases h;exact ZL trivial @V10.eq_1
 ·subst hv;simp only[] at h;obtain⟨rfl,i⟩:=hq;cases h;exact i
def IU(a:List ByteArray)(b:ByteArray)(v:Int):St:=⟨[(0,.lst .o 1 (a.map AV.z)),(1,.z b),(7,.i (a.length:Int)),(8,.i v)],[]⟩
theorem w_bx(b:List ByteArray)(c:ByteArray)(g:Int)(o:Int⊕(Unit⊕Int))(h:BP b c g=some o):AWP (OkS Tryz.prog) xN (qL [0,1,7,8] [] (IU b c) (qS (qX 0 [] [] (cy)) (qR aC (fun r=>.i r))) o) (IU b c g):=by
 have e:=ZA @IU.eq_1 @cy.eq_1;unfold BP at h;simp only[ZC,IU,xN];obtain⟨a,h⟩|⟨a,h⟩:=aq h
 ·obtain⟨k,j,h⟩:=af h;obtain⟨d,h⟩|⟨d,h⟩:=aq h
  ·cases h;exact ZL (ZA a (ZA (aV j) d)) @aC.eq_1
  ·cases h;exact ZL (ZA a (ZA (aV j) d)) e
 ·cases h;exact ZL a e
theorem w_go(a:List ByteArray)(b:ByteArray){r:Int}(h:PG a b=some r):Ok Tryz.prog 206 [.lst .o 1 (a.map AV.z),.z b] (.i r):=by
 refine aB be m206 rfl ?_;unfold PG at h;simp only[ZC,A206,aC,aL];obtain⟨c,d,h⟩:=af h;try refine ZF trivial ?_
 refine bq (o:=c) (bA dc (aI (w_bx a b) d ?_)) (fun j hv=>?_) (fun k hv e τ hne hq=>?_)
 ·exact ZK (ZA @IU.eq_1 @cy.eq_1)
 ·subst hv;simp only[] at h;simp only[ZC,cy,EX];cases h;exact ZL trivial @aC.eq_1
 ·subst hv;simp only[] at h;obtain⟨rfl,g⟩:=hq;cases h;exact g
theorem w_fr(a:List ByteArray)(c:ByteArray){r:Bool}(h:IR a c=some r):Ok Tryz.prog 148 [.lst .o 1 (a.map AV.z),.z c] (.b r):=by
 refine aB be m148 rfl ?_;unfold IR at h;simp only[ZC,A148,aC,aL];obtain⟨g,d,h⟩:=af h;refine ZF trivial ?_;refine ZSG trivial (w_go _ _ d) ?_;cases h;exact ZL trivial @aC.eq_1
theorem Qr(a:Int){r:Bool}(h:vX a=some r):Ok Tryz.prog 224 [.i a] (.b r):=by
 refine aB be m224 rfl ?_;unfold vX at h;simp only[ZC,A224,V10,aL];cases h;exact ZL trivial @V10.eq_1
theorem w_m(j:Int)(k:Int){r:Int}(h:M_m j k=some r):Ok Tryz.prog 189 [.i j,.i k] (.i r):=by
 have e:=@aC.eq_1;refine aB be m189 rfl ?_;unfold M_m at h;simp only[ZC,A189,aC,aL];obtain⟨p,l,h⟩:=af h;refine ZF trivial ?_;refine ZSG trivial (Qr _ l) ?_;obtain⟨q,m,h⟩:=af h;refine ZF trivial ?_;refine ZSG trivial (Qr _ m) ?_;obtain⟨a,h⟩|⟨a,h⟩:=aq h
 ·obtain⟨d,h⟩|⟨d,h⟩:=aq h
  ·cases h;exact ZL (ZA a d) e
  ·cases h;exact ZL (ZA a d) e
 ·obtain⟨b,h⟩|⟨b,h⟩:=aq h
  ·cases h;exact ZL (ZA a b) e
  ·obtain⟨c,h⟩|⟨c,h⟩:=aq h
   ·cases h;exact ZL (ZA a (ZA b c)) e
   ·obtain⟨g,h⟩|⟨g,h⟩:=aq h
    ·cases h;exact ZL (ZA a (ZA b (ZA c g))) e
    ·cases h;exact ZL (ZA a (ZA b (ZA c g))) e
def S_k(a:List Int)(v:Int):St:=⟨[(3,.i 0),(6,.lst .o 1 (a.map AV.i)),(7,.i (a.length:Int)),(8,.i v)],[]⟩
def Qh(v:Unit):St:=⟨[(3,.i 0)],[]⟩
theorem w_k(b:List Int)(d:Int)(o:Int⊕(Unit⊕Int))(h:M_k b d=some o):AWP (OkS Tryz.prog) yp (qL [3,6,7,8] [] (S_k b) (qS (qX 0 [3] [] (Qh)) (qR V10 (fun r=>.i r))) o) (S_k b d):=by
 have e:=ZA @S_k.eq_1 @Qh.eq_1;unfold M_k at h;simp only[ZC,S_k,yp];obtain⟨a,h⟩|⟨a,h⟩:=aq h
 ·obtain⟨j,g,h⟩:=af h;obtain⟨c,h⟩|⟨c,h⟩:=aq h
  ·cases h;exact ZL (ZA a (ZA (aV g) c)) @V10.eq_1
  ·cases h;exact ZL (ZA a (ZA (aV g) c)) e
 ·cases h;exact ZL a e
theorem QN(a:List Int){r:Int}(h:mB a=some r):Ok Tryz.prog 188 [.lst .o 1 (a.map AV.i)] (.i r):=by
 refine aB be m188 rfl ?_;unfold mB at h;simp only[ZC,A188,V10,aL];obtain⟨b,c,h⟩:=af h;try refine ZF trivial ?_
 refine bq (o:=b) (bA dc (aI (w_k a) c ?_)) (fun g hv=>?_) (fun j hv e τ hne hq=>?_)
 ·exact ZK (ZA @S_k.eq_1 @Qh.eq_1)
 ·subst hv;simp only[] at h;simp only[ZC,Qh,IA];cases h;exact ZL trivial @V10.eq_1
 ·subst hv;simp only[] at h;obtain⟨rfl,d⟩:=hq;cases h;exact d
theorem w_fs(a:aA)(b:aA){r:Int}(h:Lt a b=some r):Ok Tryz.prog 149 [.agg [.i a.A,.i a.B,.i a.Length,.i a.Risk],.agg [.i b.A,.i b.B,.i b.Length,.i b.Risk]] (.i r):=by
 refine aB be m149 rfl ?_;unfold Lt at h;simp only[ZC,A149,aC,aL];obtain⟨j,k,h⟩:=af h;refine ZF trivial ?_;refine ZSG trivial (w_m _ _ k) ?_;obtain⟨l,m,h⟩:=af h;refine ZF trivial ?_;refine ZSG trivial (w_m _ _ m) ?_;obtain⟨p,q,h⟩:=af h;refine ZF trivial ?_;refine ZSG trivial (w_m _ _ q) ?_;obtain⟨s,t,h⟩:=af h;refine ZF trivial ?_;refine ZSG trivial (w_m _ _ t) ?_;obtain⟨c,d,h⟩:=aU h;have u:Row.arr 1 [(.i j:AV),(.i l:AV),(.i p:AV),(.i s:AV)]=Row.arr 1 (c.map AV.i):=by rw[<-d];rfl
 have g:c.length=4:=by rw[<-d];rfl
 have v:sub (c.map AV.i) 0 4=c.map AV.i:=lI _ (by simp[<-d]);obtain⟨x,w,h⟩:=af h;have f:=ZA u (ZA g v);refine ZF f ?_;refine ZSG f (QN _ w) ?_;cases h;exact ZL f (ZA @aC.eq_1 (ZA d.symm g))
def CC(a:ae)(v:Int):St:=⟨[(1,.pt 1 0 0),(8,.lst .o 1 (a.Nodes.map AV.z)),(9,.i (a.Nodes.length:Int)),(10,.i v)],[(1,.var (.agg [.lst .o 1 (a.Nodes.map AV.z),.lst .o 4 (a.Fibers.map (ai .o))]))]⟩
theorem w_bk(a:ae)(i:Int)(o:Int⊕(Unit⊕Bool))(h:Ea a i=some o):AWP (OkS Tryz.prog) Kz (qL [1,8,9,10] [1] (CC a) (qS (qX 0 [1] [1] (kX a)) (qR V10 (fun r=>.b r))) o) (CC a i):=by
 unfold Ea at h;simp only[ZC,CC,Kz];obtain⟨c,h⟩|⟨c,h⟩:=aq h
 ·obtain⟨v,j,h⟩:=af h;obtain⟨w,k,h⟩:=af h;have f:=ZA c (aV j);refine ZF f ?_;refine ZSG f (w_fq _ k) ?_;obtain⟨d,h⟩|⟨d,h⟩:=aq h
  ·cases h;exact ZL (ZA f d) @V10.eq_1
  ·obtain⟨x,l,h⟩:=af h;obtain⟨m,p,q,s,t⟩:=RI AV.z l;obtain⟨y,u,h⟩:=af h;have f:=ZA f (ZA d (ZA m (ZA p (ZA q (ZA s t)))));refine ZF f ?_;refine ZSG f (w_fr _ _ u) ?_;obtain⟨g,h⟩|⟨g,h⟩:=aq h
   ·cases h;exact ZL (ZA f g) @V10.eq_1
   ·cases h;exact ZL (ZA f g) (ZA @CC.eq_1 @kX.eq_1)
 ·cases h;exact ZL c (ZA @CC.eq_1 @kX.eq_1)
def xY(a:ae)(v:Int):St:=⟨[(1,.pt 1 0 0),(28,.lst .o 4 (a.Fibers.map (ai .o))),(29,.i (a.Fibers.length:Int)),(30,.i v)],[(1,.var (.agg [.lst .o 1 (a.Nodes.map AV.z),.lst .o 4 (a.Fibers.map (ai .o))]))]⟩
theorem w_bc(d:ae)(q:Int)(o:Int⊕(Unit⊕Bool))(h:EF d q=some o):AWP (OkS Tryz.prog) Gy (qL [1,28,29,30] [1] (xY d) (qS (qX 2 [1] [1] (kX d)) (qR V10 (fun r=>.b r))) o) (xY d q):=by
 have e:=@V10.eq_1;unfold EF at h;simp only[ZC,xY,Gy];obtain⟨a,h⟩|⟨a,h⟩:=aq h
 ·obtain⟨w,g,h⟩:=af h;obtain⟨c,h⟩|⟨c,h⟩:=aq h
  ·cases h;exact ZL (ZA a (ZA (aV g) c)) e
  ·obtain⟨i,h⟩|⟨i,h⟩:=aq h
   ·cases h;exact ZL (ZA a (ZA (aV g) (ZA c i))) e
   ·obtain⟨k,h⟩|⟨k,h⟩:=aq h
    ·cases h;exact ZL (ZA a (ZA (aV g) (ZA c (ZA i k)))) e
    ·obtain⟨x,s,h⟩:=af h;have f:=ZA a (ZA (aV g) (ZA c (ZA i k)));refine ZF f ?_;refine ZSG f (w_d _ _ _ s) ?_;obtain⟨l,h⟩|⟨l,h⟩:=aq h
     ·cases h;exact ZL (ZA f l) e
     ·obtain⟨y,t,h⟩:=af h;have f:=ZA f l;refine ZF f ?_;refine ZSG f (w_d _ _ _ t) ?_;obtain⟨j,h⟩|⟨j,h⟩:=aq h
      ·cases h;exact ZL (ZA f j) e
      ·obtain⟨m,h⟩|⟨m,h⟩:=aq h
       ·obtain⟨z,u,h⟩:=af h;obtain⟨a1,v,h⟩:=af h;have f:=ZA f (ZA j (ZA m (aV u)));refine ZF f ?_;refine ZSG f (w_fs _ _ v) ?_;obtain⟨p,h⟩|⟨p,h⟩:=aq h
        ·cases h;exact ZL (ZA f p) e
        ·cases h;exact ZL (ZA f p) (ZA @xY.eq_1 @kX.eq_1)
       ·cases h;exact ZL (ZA f (ZA j m)) (ZA @xY.eq_1 @kX.eq_1)
 ·cases h;exact ZL a (ZA @xY.eq_1 @kX.eq_1)
theorem PQ(a:ae){r:Bool}(h:vZ a=some r):Ok Tryz.prog 81 [.agg [.lst .o 1 (a.Nodes.map AV.z),.lst .o 4 (a.Fibers.map (ai .o))]] (.b r):=by
 refine aB be m81 rfl ?_;unfold vZ at h;simp only[ZC,A81,V10,aL];obtain⟨d,g,h⟩:=af h;try refine ZF trivial ?_
 refine bq (o:=d) (bA dc (aI (w_bk a) g ?_)) (fun p hv=>?_) (fun q hv e τ hne hq=>?_)
 ·exact ZK (ZA @CC.eq_1 @kX.eq_1)
 ·subst hv;simp only[] at h;simp only[ZC,kX,So];obtain⟨i,j,h⟩:=af h;try refine ZF trivial ?_
  refine bq (o:=i) (bA dc (aI (w_bc a) j ?_)) (fun s hv=>?_) (fun t hv e τ hne hq=>?_)
  ·exact ZK (ZA @xY.eq_1 @kX.eq_1)
  ·subst hv;simp only[] at h;simp only[ZC,kX,Sg];obtain⟨u,k,h⟩:=af h;refine ZF trivial ?_;refine ZSG trivial (w_d _ _ _ k) ?_;obtain⟨c,h⟩|⟨c,h⟩:=aq h
   ·cases h;exact ZL c @V10.eq_1
   ·cases h;exact ZL c @V10.eq_1
  ·subst hv;simp only[] at h;obtain⟨rfl,l⟩:=hq;cases h;exact l
 ·subst hv;simp only[] at h;obtain⟨rfl,m⟩:=hq;cases h;exact m
theorem SK(a:aA)(d:Int){r:Int}(h:wT a d=some r):Ok Tryz.prog 215 [.agg [.i a.A,.i a.B,.i a.Length,.i a.Risk],.i d] (.i r):=by
 refine aB be m215 rfl ?_;unfold wT at h;simp only[ZC,A215,aC,aL];obtain⟨b,h⟩|⟨b,h⟩:=aq h
 ·cases h;exact ZL b @aC.eq_1
 ·obtain⟨c,h⟩|⟨c,h⟩:=aq h
  ·cases h;exact ZL (ZA b c) @aC.eq_1
  ·cases h;exact ZL (ZA b c) @aC.eq_1
def IJ(a:List Int)(b:Int)(v:Int):St:=⟨[(0,.lst .o 1 (a.map AV.i)),(1,.i b),(7,.i (a.length:Int)),(8,.i v)],[]⟩
theorem w_by(b:List Int)(c:Int)(g:Int)(o:Int⊕(Unit⊕Int))(h:Cy b c g=some o):AWP (OkS Tryz.prog) xb (qL [0,1,7,8] [] (IJ b c) (qS (qX 0 [] [] (cy)) (qR aC (fun r=>.i r))) o) (IJ b c g):=by
 have e:=ZA @IJ.eq_1 @cy.eq_1;unfold Cy at h;simp only[ZC,IJ,xb];obtain⟨a,h⟩|⟨a,h⟩:=aq h
 ·obtain⟨k,j,h⟩:=af h;obtain⟨d,h⟩|⟨d,h⟩:=aq h
  ·cases h;exact ZL (ZA a (ZA (aV j) d)) @aC.eq_1
  ·cases h;exact ZL (ZA a (ZA (aV j) d)) e
 ·cases h;exact ZL a e
theorem w_gp(a:List Int)(b:Int){r:Int}(h:QO a b=some r):Ok Tryz.prog 139 [.lst .o 1 (a.map AV.i),.i b] (.i r):=by
 refine aB be m139 rfl ?_;unfold QO at h;simp only[ZC,A139,aC,aL];obtain⟨c,d,h⟩:=af h;try refine ZF trivial ?_
 refine bq (o:=c) (bA dc (aI (w_by a b) d ?_)) (fun j hv=>?_) (fun k hv e τ hne hq=>?_)
 ·exact ZK (ZA @IJ.eq_1 @cy.eq_1)
 ·subst hv;simp only[] at h;simp only[ZC,cy,MF];cases h;exact ZL trivial @aC.eq_1
 ·subst hv;simp only[] at h;obtain⟨rfl,g⟩:=hq;cases h;exact g
theorem Vf(a:List Int)(c:Int){r:Bool}(h:wM a c=some r):Ok Tryz.prog 68 [.lst .o 1 (a.map AV.i),.i c] (.b r):=by
 refine aB be m68 rfl ?_;unfold wM at h;simp only[ZC,A68,aC,aL];obtain⟨g,d,h⟩:=af h;refine ZF trivial ?_;refine ZSG trivial (w_gp _ _ d) ?_;cases h;exact ZL trivial @aC.eq_1
def Cl(a:ae)(b:ah)(v:Int×Int×List Int):St:=⟨[(2,.pt 2 0 0),(6,.sl 6 0 v.2.2.length),(7,.i v.1),(30,.lst .o 1 (b.Fibers.map AV.i)),(31,.i (b.Fibers.length:Int)),(32,.i v.2.1)],[(2,.var (.agg [.lst .o 1 (a.Nodes.map AV.z),.lst .o 4 (a.Fibers.map (ai .o))])),(6,.arr 1 (v.2.2.map AV.i))]⟩
theorem w_bl(c:ae)(d:ah)(a:Int×Int×List Int)(o:(Int×Int×List Int)⊕((List Int)⊕(List Int×Bool)))(h:DE c d a=some o):AWP (OkS Tryz.prog) wC (qL [2,6,7,30,31,32] [2,6] (Cl c d) (qS (qX 0 [6] [6] (qz)) (qR gf (fun r=>.tup [.lst .u 1 (r.1.map AV.i),.b r.2]))) o) (Cl c d a):=by
 unfold DE at h;simp only[ZC,Cl,wC];obtain⟨j,h⟩|⟨j,h⟩:=aq h
 ·obtain⟨q1,b1,h⟩:=af h;obtain⟨s1,c1,h⟩:=af h;have f:=ZA j (aV b1);refine ZF f ?_;refine ZSG f (w_d _ _ _ c1) ?_;obtain⟨k,h⟩|⟨k,h⟩:=aq h
  ·cases h;exact ZL (ZA f k) @gf.eq_1
  ·obtain⟨t1,d1,h⟩:=af h;obtain⟨t,g1,h⟩:=af h;have f:=ZA f (ZA k (aV d1));refine ZF f ?_;refine ZSG f (SK _ _ g1) ?_;obtain⟨i1,j1,h⟩:=af h;try refine ZF f ?_
   refine aF (sh:=(fun v=>⟨[(2,.pt 2 0 0),(6,.sl 6 0 a.2.2.length),(7,.i t),(30,.lst .o 1 (d.Fibers.map AV.i)),(31,.i (d.Fibers.length:Int)),(32,.i a.2.1),(56,.b v)],[(2,.var (.agg [.lst .o 1 (c.Nodes.map AV.z),.lst .o 4 (c.Fibers.map (ai .o))])),(6,.arr 1 (a.2.2.map AV.i))]⟩)) (s:=i1) ?_ ?_
   ·replace h:=j1;obtain⟨l,h⟩|⟨l,h⟩:=aq h
    ·cases h;exact ZL (ZA f l) trivial
    ·obtain⟨u1,k1,h⟩:=af h;have f:=ZA f l;refine ZF f ?_;refine ZSG f (Vf _ _ k1) ?_;cases h;exact ZL f trivial
   ·simp only[ZC,KB];obtain⟨m,h⟩|⟨m,h⟩:=aq h
    ·cases h;exact ZL (ZA f m) @gf.eq_1
    ·obtain⟨p,g,h⟩:=aU h;have l1:Row.arr 1 [(.i t:AV)]=Row.arr 1 (p.map AV.i):=by rw[<-g];rfl
     have w:p.length=1:=by rw[<-g];rfl
     obtain⟨v1,m1,h⟩:=af h;have x:=aW m1;obtain⟨y,q,h⟩:=aU h;have p1:a.2.2.map AV.i++p.map AV.i=y.map AV.i:=by rw[<-q,List.map_append]
     have a1:a.2.2.length+1=y.length:=by simp[<-g,<-q]<;>omega
     rw[a1] at x;cases h;exact ZL (ZA f (ZA m (ZA l1 (ZA w (ZA x (ZA p1 a1)))))) (ZA @Cl.eq_1 (ZA @qz.eq_1 (ZA g.symm (ZA q.symm w))))
 ·cases h;exact ZL j (ZA @Cl.eq_1 @qz.eq_1)
theorem Vy(c:ae)(a:ah){r:List Int×Bool}(h:yD c a=some r):Ok Tryz.prog 168 [.agg [.lst .o 1 (c.Nodes.map AV.z),.lst .o 4 (c.Fibers.map (ai .o))],.agg [.i a.Start,.lst .o 1 (a.Fibers.map AV.i)]] (.tup [.lst .u 1 (r.1.map AV.i),.b r.2]):=by
 refine aB be m168 rfl ?_;unfold yD at h;simp only[ZC,A168,gf,aL];obtain⟨m,p,h⟩:=af h;try refine ZF trivial ?_
 refine aF (sh:=(fun v=>⟨[(2,.pt 2 0 0),(3,.pt 3 0 0),(23,.b v)],[(2,.var (.agg [.lst .o 1 (c.Nodes.map AV.z),.lst .o 4 (c.Fibers.map (ai .o))])),(3,.var (.agg [.i a.Start,.lst .o 1 (a.Fibers.map AV.i)]))]⟩)) (s:=m) ?_ ?_
 ·replace h:=p;obtain⟨a1,q,h⟩:=af h;refine ZF trivial ?_;refine ZSG trivial (w_d _ _ _ q) ?_;obtain⟨d,h⟩|⟨d,h⟩:=aq h
  ·cases h;exact ZL d trivial
  ·cases h;exact ZL d trivial
 ·simp only[ZC,Gf];obtain⟨g,h⟩|⟨g,h⟩:=aq h
  ·cases h;exact ZL g @gf.eq_1
  ·obtain⟨l,j,h⟩:=aU h;have t:Row.arr 1 [(.i a.Start:AV)]=Row.arr 1 (l.map AV.i):=by rw[<-j];rfl
   have k:l.length=1:=by rw[<-j];rfl
   obtain⟨w,x,h⟩:=af h;have f:=ZA g (ZA t k);try refine ZF f ?_
   refine bq (o:=w) (bA dc (aI (w_bl c a) x ?_)) (fun b1 hv=>?_) (fun c1 hv e τ hne hq=>?_)
   ·exact ZK (ZA @Cl.eq_1 (ZA @qz.eq_1 (ZA j.symm k)))
   ·subst hv;simp only[] at h;simp only[ZC,qz,Lu];cases h;exact ZL f (ZA @gf.eq_1 k)
   ·subst hv;simp only[] at h;obtain⟨rfl,y⟩:=hq;cases h;exact y
theorem w_dz(c:aM){r:Bool}(h:BG c=some r):Ok Tryz.prog 169 [.agg [.i c.First,.i c.Count]] (.b r):=by
 refine aB be m169 rfl ?_;unfold BG at h;simp only[ZC,A169,V10,aL];obtain⟨a,h⟩|⟨a,h⟩:=aq h
 ·obtain⟨j,g,h⟩:=af h;refine ZF a ?_;refine ZSG a (w_d _ _ _ g) ?_;obtain⟨d,h⟩|⟨d,h⟩:=aq h
  ·cases h;exact ZL (ZA a d) @V10.eq_1
  ·cases h;exact ZL (ZA a d) @V10.eq_1
 ·cases h;exact ZL a @V10.eq_1
def Jg(a:ae)(b:Int×List (List Int))(v:Int×List Int):St:=⟨[(1,.pt 1 0 0),(3,.sl 3 0 b.2.length),(4,.i b.1),(5,.sl 5 0 v.2.length),(17,.lst .o 4 (a.Fibers.map (ai .o))),(18,.i (a.Fibers.length:Int)),(19,.i v.1)],[(1,.var (.agg [.lst .o 1 (a.Nodes.map AV.z),.lst .o 4 (a.Fibers.map (ai .o))])),(3,.arr 1 (b.2.map (cg .u))),(5,.arr 1 (v.2.map AV.i))]⟩
def AK(b:ae)(a:Int×List (List Int))(v:List Int):St:=⟨[(1,.pt 1 0 0),(3,.sl 3 0 a.2.length),(4,.i a.1),(5,.sl 5 0 v.length)],[(1,.var (.agg [.lst .o 1 (b.Nodes.map AV.z),.lst .o 4 (b.Fibers.map (ai .o))])),(3,.arr 1 (a.2.map (cg .u))),(5,.arr 1 (v.map AV.i))]⟩
theorem w_ae(b:ae)(c:Int×List (List Int))(a:Int×List Int)(o:(Int×List Int)⊕(List Int))(h:BV b c a=some o):AWP (OkS Tryz.prog) Kw (qL [1,3,4,5,17,18,19] [1,3,5] (Jg b c) (qX 2 [1,3,4,5] [1,3,5] (AK b c)) o) (Jg b c a):=by
 have e:=ZA @Jg.eq_1 @AK.eq_1;unfold BV at h;simp only[ZC,Jg,Kw];obtain⟨d,h⟩|⟨d,h⟩:=aq h
 ·obtain⟨x,m,h⟩:=af h;obtain⟨j,h⟩|⟨j,h⟩:=aq h
  ·obtain⟨k,g,h⟩:=aU h;have u:Row.arr 1 [(.i a.1:AV)]=Row.arr 1 (k.map AV.i):=by rw[<-g];rfl
   have p:k.length=1:=by rw[<-g];rfl
   obtain⟨y,v,h⟩:=af h;have q:=aW v;obtain⟨s,l,h⟩:=aU h;have w:a.2.map AV.i++k.map AV.i=s.map AV.i:=by rw[<-l,List.map_append]
   have t:a.2.length+1=s.length:=by simp[<-g,<-l]<;>omega
   rw[t] at q;cases h;exact ZL (ZA d (ZA (aV m) (ZA j (ZA u (ZA p (ZA q (ZA w t))))))) (ZA e (ZA g.symm (ZA l.symm p)))
  ·cases h;exact ZL (ZA d (ZA (aV m) j)) e
 ·cases h;exact ZL d e
def Kn(a:ae)(v:Int×List (List Int)):St:=⟨[(1,.pt 1 0 0),(3,.sl 3 0 v.2.length),(4,.i v.1)],[(1,.var (.agg [.lst .o 1 (a.Nodes.map AV.z),.lst .o 4 (a.Fibers.map (ai .o))])),(3,.arr 1 (v.2.map (cg .u)))]⟩
def Bc(a:ae)(v:List (List Int)):St:=⟨[(1,.pt 1 0 0),(3,.sl 3 0 v.length)],[(1,.var (.agg [.lst .o 1 (a.Nodes.map AV.z),.lst .o 4 (a.Fibers.map (ai .o))])),(3,.arr 1 (v.map (cg .u)))]⟩
theorem w_ad(a:ae)(b:Int×List (List Int))(o:(Int×List (List Int))⊕(List (List Int)))(h:Ch a b=some o):AWP (OkS Tryz.prog) IC (qL [1,3,4] [1,3] (Kn a) (qX 0 [1,3] [1,3] (Bc a)) o) (Kn a b):=by
 have e:=ZA @Kn.eq_1 @Bc.eq_1;unfold Ch at h;simp only[ZC,Kn,IC];obtain⟨c,h⟩|⟨c,h⟩:=aq h
 ·obtain⟨s,t,h⟩:=af h;try refine ZF c ?_
  refine aF (bi (aI (w_ae a b) t ?_)) ?_
  ·exact ZK (ZA @Jg.eq_1 @AK.eq_1)
  ·simp only[ZC,AK,RM];obtain⟨g,h⟩|⟨g,h⟩:=aq h
   ·obtain⟨j,d,h⟩:=aU h;have v:Row.arr 1 [(.lst .u 1 (s.map AV.i):AV)]=Row.arr 1 (j.map (cg .u)):=by rw[<-d];rfl
    have l:j.length=1:=by rw[<-d];rfl
    obtain⟨y,w,h⟩:=af h;have m:=aW w;obtain⟨p,k,h⟩:=aU h;have x:b.2.map (cg .u)++j.map (cg .u)=p.map (cg .u):=by rw[<-k,List.map_append]
    have q:b.2.length+1=p.length:=by simp[<-d,<-k]<;>omega
    rw[q] at m;cases h;exact ZL (ZA c (ZA g (ZA v (ZA l (ZA m (ZA x q)))))) (ZA e (ZA d.symm (ZA k.symm l)))
   ·cases h;exact ZL (ZA c g) e
 ·cases h;exact ZL c e
def HK(a:ae)(v:Int×List (List Int)):St:=⟨[(3,.sl 3 0 v.2.length),(41,.lst .o 4 (a.Fibers.map (ai .o))),(42,.i (a.Fibers.length:Int)),(43,.i v.1)],[(3,.arr 1 (v.2.map (cg .u)))]⟩
def zA(v:List (List Int)):St:=⟨[(3,.sl 3 0 v.length)],[(3,.arr 1 (v.map (cg .u)))]⟩
theorem w_af(j:ae)(a:Int×List (List Int))(o:(Int×List (List Int))⊕(List (List Int)))(h:DP j a=some o):AWP (OkS Tryz.prog) Lj (qL [3,41,42,43] [3] (HK j) (qX 4 [3] [3] (zA)) o) (HK j a):=by
 have e:=ZA @HK.eq_1 @zA.eq_1;unfold DP at h;simp only[ZC,HK,Lj];obtain⟨d,h⟩|⟨d,h⟩:=aq h
 ·obtain⟨c1,p,h⟩:=af h;obtain⟨k,h⟩|⟨k,h⟩:=aq h
  ·obtain⟨b,c,h⟩:=aU h;have x:Row.arr 1 [(.i a.1:AV)]=Row.arr 1 (b.map AV.i):=by rw[<-c];rfl
   have q:b.length=1:=by rw[<-c];rfl
   have y:sub (b.map AV.i) 0 1=b.map AV.i:=lI _ (by simp[<-c]);obtain⟨l,g,h⟩:=aU h;have z:Row.arr 1 [(.lst .u 1 (b.map AV.i):AV)]=Row.arr 1 (l.map (cg .u)):=by rw[<-g];rfl
   have s:l.length=1:=by rw[<-g];rfl
   obtain⟨d1,a1,h⟩:=af h;have t:=aW a1;obtain⟨v,m,h⟩:=aU h;have b1:a.2.map (cg .u)++l.map (cg .u)=v.map (cg .u):=by rw[<-m,List.map_append]
   have w:a.2.length+1=v.length:=by simp[<-c,<-g,<-m]<;>omega
   rw[w] at t;cases h;exact ZL (ZA d (ZA (aV p) (ZA k (ZA x (ZA q (ZA y (ZA z (ZA s (ZA t (ZA b1 w)))))))))) (ZA e (ZA c.symm (ZA g.symm (ZA m.symm (ZA q s)))))
  ·cases h;exact ZL (ZA d (ZA (aV p) k)) e
 ·cases h;exact ZL d e
theorem w_ep(a:ae){r:List (List Int)}(h:Lc a=some r):Ok Tryz.prog 78 [.agg [.lst .o 1 (a.Nodes.map AV.z),.lst .o 4 (a.Fibers.map (ai .o))]] (.lst .u 1 (r.map (cg .u))):=by
 refine aB be m78 rfl ?_;unfold Lc at h;simp only[ZC,A78,V10,aL];obtain⟨d,b,h⟩:=af h;try refine ZF trivial ?_
 refine aF (bi (aI (w_ad a) b ?_)) ?_
 ·exact ZK (ZA @Kn.eq_1 @Bc.eq_1)
 ·simp only[ZC,Bc,Rv];obtain⟨g,c,h⟩:=af h;try refine ZF trivial ?_
  refine aF (bi (aI (w_af a) c ?_)) ?_
  ·exact ZK (ZA @HK.eq_1 @zA.eq_1)
  ·simp only[ZC,zA,Se];cases h;exact ZL trivial @V10.eq_1
theorem w_ft(a:List Int)(p1Z0:Int){r:Bool}(h:MI a p1Z0=some r):Ok Tryz.prog 248 [.lst .o 1 (a.map AV.i),.bp .o (.i p1Z0) 0] (.b r):=by
 refine aB be m248 rfl ?_;unfold MI at h;simp only[ZC,A248,sH,aL];obtain⟨d,c,h⟩:=af h;refine ZF trivial ?_;refine ZSG trivial (Vf _ _ c) ?_;cases h;exact ZL trivial @sH.eq_1
def Jv(a:List (List Int))(F_fZ0:Nat)(C_fZ0:List AV)(v:Int):St:=⟨[(0,.lst .o 1 (a.map (cg .o))),(1,.fn F_fZ0 C_fZ0),(7,.i (a.length:Int)),(8,.i v)],[]⟩
theorem w_bz(c:List (List Int))(j:(List Int)->Option Bool)(F_fZ0:Nat)(C_fZ0:List AV)(hC_fZ0:mj C_fZ0)(hf_fZ0:∀(x0:List Int)(r:Bool),j x0=some r->Ok Tryz.prog F_fZ0 ((.lst .o 1 (x0.map AV.i))::C_fZ0) (.b r))(k:Int)(o:Int⊕(Unit⊕Int))(h:DN c j k=some o):AWP (OkS Tryz.prog) xe (qL [0,1,7,8] [] (Jv c F_fZ0 C_fZ0) (qS (qX 0 [] [] (cy)) (qR aC (fun r=>.i r))) o) (Jv c F_fZ0 C_fZ0 k):=by
 have e:=ZA @Jv.eq_1 @cy.eq_1;unfold DN at h;simp only[ZC,Jv,xe];obtain⟨a,h⟩|⟨a,h⟩:=aq h
 ·obtain⟨m,d,h⟩:=af h;obtain⟨p,l,h⟩:=af h;have f:=ZA a (aV d);refine ZF f ?_;have f:=ZA f hC_fZ0.1;refine ZSG f (hf_fZ0 _ _ l) ?_;obtain⟨g,h⟩|⟨g,h⟩:=aq h
  ·cases h;exact ZL (ZA a (ZA (aV d) g)) (ZA @aC.eq_1 (ZA hC_fZ0.2 ((ck hC_fZ0))))
  ·cases h;exact ZL (ZA a (ZA (aV d) g)) (ZA e (ZA hC_fZ0.2 ((ck hC_fZ0))))
 ·cases h;exact ZL a (ZA e (ZA hC_fZ0.2 ((ck hC_fZ0))))
theorem w_fu(a:List (List Int))(c:(List Int)->Option Bool){r:Int}(h:HR a c=some r)(F_fZ0:Nat)(C_fZ0:List AV)(hC_fZ0:mj C_fZ0)(hf_fZ0:∀(x0:List Int)(r:Bool),c x0=some r->Ok Tryz.prog F_fZ0 ((.lst .o 1 (x0.map AV.i))::C_fZ0) (.b r)):Ok Tryz.prog 247 [.lst .o 1 (a.map (cg .o)),.fn F_fZ0 C_fZ0] (.i r):=by
 refine aB be m247 rfl ?_;unfold HR at h;simp only[ZC,A247,aC,aL];obtain⟨d,g,h⟩:=af h;try refine ZF trivial ?_
 refine bq (o:=d) (bA dc (aI (w_bz a c F_fZ0 C_fZ0 hC_fZ0 hf_fZ0) g ?_)) (fun k hv=>?_) (fun l hv e τ hne hq=>?_)
 ·exact ZK (ZA @Jv.eq_1 (ZA @cy.eq_1 (ZA hC_fZ0.2 ((ck hC_fZ0)))))
 ·subst hv;simp only[] at h;simp only[ZC,cy,MH];cases h;exact ZL trivial (ZA @aC.eq_1 (ZA hC_fZ0.2 ((ck hC_fZ0))))
 ·subst hv;simp only[] at h;obtain⟨rfl,j⟩:=hq;cases h;exact j
theorem w_fv(a:ae)(b:Int){r:Int}(h:EW a b=some r):Ok Tryz.prog 230 [.agg [.lst .o 1 (a.Nodes.map AV.z),.lst .o 4 (a.Fibers.map (ai .o))],.i b] (.i r):=by
 refine aB be m230 rfl ?_;unfold EW at h;simp only[ZC,A230,aC,aL];obtain⟨g,c,h⟩:=af h;refine ZF trivial ?_;refine ZUG trivial (w_ep _ c) ?_;obtain⟨j,d,h⟩:=af h;refine ZF trivial ?_;refine ZSG trivial (w_fu _ _ d 248 [.bp .o (.i b) 0] ⟨fun ρ k=>by simp only[VS1,VS2,VS3,VS4,VS5,VS6,VT1,VT2,cb,cd,decide_true,decide_false,List.nodup_nil,List.nodup_cons,fA,fw,fq,ne_eq,not_false_eq_true,Int.reduceEq,Int.reduceNe,true_and,false_and,Nat.reduceSub,Nat.reduceMul,↓reduceIte,reduceCtorEq,Nat.reduceEqDiff,Nat.reduceAdd,Nat.reduceLeDiff,Int.reduceLE],by simp[aO,AV.ments]⟩ (fun _ _ h=>w_ft _ _ h)) ?_;cases h;exact ZL trivial @aC.eq_1
def KZ(a:ae)(b:List Int)(v:Int×List Int):St:=⟨[(2,.pt 2 0 0),(5,.sl 5 0 v.2.length),(9,.lst .o 1 (b.map AV.i)),(10,.i (b.length:Int)),(11,.i v.1)],[(2,.var (.agg [.lst .o 1 (a.Nodes.map AV.z),.lst .o 4 (a.Fibers.map (ai .o))])),(5,.arr 1 (v.2.map AV.i))]⟩
theorem w_ca(c:ae)(d:List Int)(a:Int×List Int)(o:(Int×List Int)⊕(List Int))(h:Em c d a=some o):AWP (OkS Tryz.prog) xD (qL [2,5,9,10,11] [2,5] (KZ c d) (qX 0 [5] [5] (nD)) o) (KZ c d a):=by
 have e:=ZA @KZ.eq_1 @nD.eq_1;unfold Em at h;simp only[ZC,KZ,xD];obtain⟨g,h⟩|⟨g,h⟩:=aq h
 ·obtain⟨y,s,h⟩:=af h;obtain⟨t,u,h⟩:=af h;have f:=ZA g (aV s);refine ZF f ?_;refine ZSG f (w_fv _ _ u) ?_;obtain⟨j,b,h⟩:=aU h;have v:Row.arr 1 [(.i t:AV)]=Row.arr 1 (j.map AV.i):=by rw[<-b];rfl
  have l:j.length=1:=by rw[<-b];rfl
  obtain⟨z,w,h⟩:=af h;have m:=aW w;obtain⟨p,k,h⟩:=aU h;have x:a.2.map AV.i++j.map AV.i=p.map AV.i:=by rw[<-k,List.map_append]
  have q:a.2.length+1=p.length:=by simp[<-b,<-k]<;>omega
  rw[q] at m;cases h;exact ZL (ZA f (ZA v (ZA l (ZA m (ZA x q))))) (ZA e (ZA b.symm (ZA k.symm l)))
 ·cases h;exact ZL g e
theorem w_ea(a:ae)(b:List Int){r:List Int}(h:Ew a b=some r):Ok Tryz.prog 202 [.agg [.lst .o 1 (a.Nodes.map AV.z),.lst .o 4 (a.Fibers.map (ai .o))],.lst .o 1 (b.map AV.i)] (.lst .u 1 (r.map AV.i)):=by
 refine aB be m202 rfl ?_;unfold Ew at h;simp only[ZC,A202,aC,aL];obtain⟨d,c,h⟩:=af h;try refine ZF trivial ?_
 refine aF (bi (aI (w_ca a b) c ?_)) ?_
 ·exact ZK (ZA @KZ.eq_1 @nD.eq_1)
 ·simp only[ZC,nD,Gz];cases h;exact ZL trivial @aC.eq_1
theorem w_gz(d:Int){r:Int}(h:Uq d=some r):Ok Tryz.prog 259 [.sc (.int .u64 d)] (.i r):=by
 refine aB be m259 rfl ?_;unfold Uq at h;simp only[ZC,A259,V10,aL];obtain⟨g,j,h⟩:=af h;try refine ZF trivial ?_
 refine aF (sh:=(fun v=>⟨[(0,.sc (.int .u64 v.1)),(2,.i v.2)],[]⟩)) (s:=g) ?_ ?_
 ·replace h:=j;obtain⟨a,h⟩|⟨a,h⟩:=aq h
  ·cases h;exact ZL a trivial
  ·cases h;exact ZL a trivial
 ·simp only[ZC,Iz];obtain⟨k,l,h⟩:=af h;try refine ZF trivial ?_
  refine aF (sh:=(fun v=>⟨[(0,.sc (.int .u64 v.1)),(2,.i v.2)],[]⟩)) (s:=k) ?_ ?_
  ·replace h:=l;obtain⟨b,h⟩|⟨b,h⟩:=aq h
   ·cases h;exact ZL b trivial
   ·cases h;exact ZL b trivial
  ·simp only[ZC,IH];obtain⟨m,p,h⟩:=af h;try refine ZF trivial ?_
   refine aF (sh:=(fun v=>⟨[(0,.sc (.int .u64 v.1)),(2,.i v.2)],[]⟩)) (s:=m) ?_ ?_
   ·replace h:=p;obtain⟨c,h⟩|⟨c,h⟩:=aq h
    ·cases h;exact ZL c trivial
    ·cases h;exact ZL c trivial
   ·simp only[ZC,Jo];obtain⟨t,q,h⟩:=af h;cases h;exact ZL (jy q) @V10.eq_1
theorem w_en(a:Int){r:Int}(h:Jm a=some r):Ok Tryz.prog 232 [.sc (.int .u64 a)] (.i r):=by
 refine aB be m232 rfl ?_;unfold Jm at h;simp only[ZC,A232,V10,aL];obtain⟨c,b,h⟩:=af h;refine ZF trivial ?_;refine ZSG trivial (w_gz _ b) ?_;cases h;exact ZL trivial @V10.eq_1
theorem w_el(d:Int)(g:Int){r:Bool}(h:Hg d g=some r):Ok Tryz.prog 255 [.i d,.i g] (.b r):=by
 refine aB be m255 rfl ?_;unfold Hg at h;simp only[ZC,A255,aC,aL];obtain⟨l,j,h⟩:=af h;refine ZF trivial ?_;refine ZSG trivial (Qr _ j) ?_;obtain⟨a,h⟩|⟨a,h⟩:=aq h
 ·obtain⟨m,k,h⟩:=af h;refine ZF a ?_;refine ZSG a (Qr _ k) ?_;obtain⟨c,h⟩|⟨c,h⟩:=aq h
  ·cases h;exact ZL (ZA a c) @aC.eq_1
  ·cases h;exact ZL (ZA a c) @aC.eq_1
 ·cases h;exact ZL a @aC.eq_1
def S_o(a:Int)(b:Int)(c:Int×List Int)(v:Int×List Int):St:=⟨[(0,.sl 1000000000 0 v.2.length),(1,.i a),(2,.i b),(6,.i c.1),(7,.i v.1)],[(1000000000,.arr 1 (v.2.map AV.i))]⟩
def Pa(a:Int)(b:Int)(c:Int×List Int)(v:List Int):St:=⟨[(0,.sl 1000000000 0 v.length),(1,.i a),(2,.i b),(6,.i c.1)],[(1000000000,.arr 1 (v.map AV.i))]⟩
theorem w_o(c:Int)(d:Int)(g:Int×List Int)(a:Int×List Int)(o:(Int×List Int)⊕(List Int))(h:M_o c a=some o):AWP (OkS Tryz.prog) oK (qL [0,1,2,6,7] [1000000000] (S_o c d g) (qX 2 [0,1,2,6] [1000000000] (Pa c d g)) o) (S_o c d g a):=by
 have e:=ZA @S_o.eq_1 @Pa.eq_1;unfold M_o at h;simp only[ZC,S_o,oK];obtain⟨q,t,h⟩:=af h;try refine ZF trivial ?_
 refine aF (sh:=(fun v=>⟨[(0,.sl 1000000000 0 a.2.length),(1,.i c),(2,.i d),(6,.i g.1),(7,.i a.1),(30,.b v)],[(1000000000,.arr 1 (a.2.map AV.i))]⟩)) (s:=q) ?_ ?_
 ·replace h:=t;obtain⟨j,h⟩|⟨j,h⟩:=aq h
  ·obtain⟨p1,u,h⟩:=af h;obtain⟨q1,w,h⟩:=af h;obtain⟨s1,x,h⟩:=af h;obtain⟨t1,y,h⟩:=af h;obtain⟨u1,z,h⟩:=af h;have f:=ZA j (ZA (aW u) (ZA w (ZA (aW x) y)));refine ZF f ?_;refine ZSG f (w_el _ _ z) ?_;cases h;exact ZL f trivial
  ·cases h;exact ZL j trivial
 ·simp only[ZC,vb];obtain⟨k,h⟩|⟨k,h⟩:=aq h
  ·obtain⟨v1,a1,h⟩:=af h;obtain⟨b1,c1,h⟩:=af h;obtain⟨w1,d1,h⟩:=af h;obtain⟨g1,i1,h⟩:=af h;obtain⟨l,m,h⟩:=aU h;have j1:(a.2.map AV.i).set (Int.toNat a.1) (.i b1)=l.map AV.i:=by rw[<-m,List.map_set]
   obtain⟨y1,k1,h⟩:=af h;obtain⟨l1,p,h⟩:=aU h;have m1:(l.map AV.i).set (Int.toNat (IntKind.wrap .i64 (a.1-1))) (.i g1)=l1.map AV.i:=by rw[<-p,List.map_set]
   cases h;exact ZL (ZA k (ZA (aW a1) (ZA c1 (ZA (aW d1) (ZA i1 (ZA j1 (ZA k1 m1))))))) (ZA e (ZA m.symm p.symm))
  ·cases h;exact ZL k e
def S_v(a:Int)(b:Int)(v:Int×List Int):St:=⟨[(0,.sl 1000000000 0 v.2.length),(1,.i a),(2,.i b),(6,.i v.1)],[(1000000000,.arr 1 (v.2.map AV.i))]⟩
def Oh(v:List Int):St:=⟨[],[(1000000000,.arr 1 (v.map AV.i))]⟩
theorem w_v(a:Int)(b:Int)(c:Int×List Int)(o:(Int×List Int)⊕(List Int))(h:M_v a b c=some o):AWP (OkS Tryz.prog) pN (qL [0,1,2,6] [1000000000] (S_v a b) (qX 0 [] [1000000000] (Oh)) o) (S_v a b c):=by
 have e:=ZA @S_v.eq_1 @Oh.eq_1;unfold M_v at h;simp only[ZC,S_v,pN];obtain⟨d,h⟩|⟨d,h⟩:=aq h
 ·obtain⟨k,l,h⟩:=af h;try refine ZF d ?_
  refine aF (sh:=(fun v=>⟨[(0,.sl 1000000000 0 v.length),(1,.i a),(2,.i b),(6,.i c.1)],[(1000000000,.arr 1 (v.map AV.i))]⟩)) (s:=k) ?_ ?_
  ·replace h:=l;obtain⟨m,g,h⟩:=af h;try refine ZF d ?_
   first|refine dG (bi (aI (w_o a b c) g ?_)) (fun τ j=>?_)|refine eR (aI (w_o a b c) g ?_) (fun τ j=>?_)
   ·exact ZK (ZA @S_o.eq_1 @Pa.eq_1)
   ·cases h;try refine ZF trivial ?_
    refine⟨rfl,Shp.sub j (by decide) (by decide) ?_⟩;exact ZK @Pa.eq_1
  ·simp only[ZC,vy];cases h;exact ZL d e
 ·cases h;exact ZL d e
theorem w_em(a:Int)(b:Int)(c:List Int){r:List Int}(h:Hw a b c=some r):OkM Tryz.prog 249 [.sl 1000000000 0 c.length,.i a,.i b] [(1000000000,.arr 1 (c.map AV.i))] (.tup []) ([(1000000000,.arr 1 (r.map AV.i))]):=by
 refine aZ (lr:=[1000000000]) be Te rfl rfl ?_;unfold Hw at h;simp only[ZC,Lz,ce];obtain⟨j,d,h⟩:=af h;try refine ZF trivial ?_
 first|refine dG (bi (aI (w_v a b) d ?_)) (fun τ g=>?_)|refine eR (aI (w_v a b) d ?_) (fun τ g=>?_)
 ·exact ZK (ZA @S_v.eq_1 @Oh.eq_1)
 ·cases h;refine jE g (by decide) ?_ rfl;exact ZK (ZA @ce.eq_1 @Oh.eq_1)
def Qc(c:Int)(d:Int)(g:Int)(a:List Int)(v:Unit):St:=⟨[(0,.sl 1000000000 0 a.length),(1,.i c),(2,.i d),(3,.i g),(8,.b true),(9,.b true)],[(1000000000,.arr 1 (a.map AV.i))]⟩
def RQ(v:Empty):St:=⟨[],[]⟩
theorem w_be(b:Int)(c:Int)(d:Int)(g:List Int)(j:Unit)(o:Unit⊕(Empty⊕(List Int)))(h:OH b c d g j=some o):AWP (OkS Tryz.prog) pF (qL [0,1,2,3,8,9] [1000000000] (Qc b c d g) (qS (qX 0 [] [] (RQ)) (qM ce [1000000000] (fun(r:List Int)=>.tup []) (fun(r:List Int)=>[(1000000000,.arr 1 (r.map AV.i))]))) o) (Qc b c d g j):=by
 unfold OH at h;simp only[ZC,Qc,pF];obtain⟨a,h⟩|⟨a,h⟩:=aq h
 ·obtain⟨m,k,h⟩:=af h;refine ZF a ?_;refine ZWG a (w_em _ _ _ k) [1000000000] [] ?_;cases h;exact ZL a @ce.eq_1
 ·obtain⟨l,h⟩|⟨l,h⟩:=aq h
  ·cases h
  ·cases h
theorem w_gg(b:Int)(c:Int)(d:Int)(a:List Int){r:List Int}(h:Rk b c d a=some r):OkM Tryz.prog 231 [.sl 1000000000 0 a.length,.i b,.i c,.i d] [(1000000000,.arr 1 (a.map AV.i))] (.tup []) ([(1000000000,.arr 1 (r.map AV.i))]):=by
 refine aZ (lr:=[1000000000]) be Td rfl rfl ?_;unfold Rk at h;simp only[ZC,MR,ce];obtain⟨g,j,h⟩:=af h;try refine ZF trivial ?_
 first|refine jV (o:=g) (bA vN (aI (w_be b c d a) j ?_)) (fun k hv τ l=>?_) (fun m hv e τ hne hq=>?_)|refine qc (o:=g) vN (aI (w_be b c d a) j ?_) (fun k hv τ l=>?_) (fun m hv e τ hne hq=>?_)
 ·exact ZK (ZA @Qc.eq_1 @RQ.eq_1)
 ·exact k.elim
 ·subst hv;simp only[] at h;obtain⟨rfl,p⟩:=hq;cases h;exact p
theorem w_eo(a:List Int){r:List Int}(h:Ja a=some r):OkM Tryz.prog 203 [.sl 1000000000 0 a.length] [(1000000000,.arr 1 (a.map AV.i))] (.tup []) ([(1000000000,.arr 1 (r.map AV.i))]):=by
 refine aZ (lr:=[1000000000]) be TR rfl rfl ?_;unfold Ja at h;simp only[ZC,JI,ce];obtain⟨d,b,h⟩:=af h;refine ZF trivial ?_;refine ZSG trivial (w_en _ b) ?_;obtain⟨g,c,h⟩:=af h;refine ZF trivial ?_;refine ZWG trivial (w_gg _ _ _ _ c) [1000000000] [] ?_;cases h;exact ZL trivial @ce.eq_1
def HU(a:Nat)(b:Nat)(c:Int)(v:Int×Int×List Int):St:=⟨[(0,.sl 1000000000 a b),(3,.i v.1),(4,.sl 1000000000 (a+(Int.toNat c)) (b-(Int.toNat c))),(5,.i v.2.1)],[(1000000000,.arr 1 (v.2.2.map AV.i))]⟩
def zt(a:Nat)(b:Nat)(v:Int×List Int):St:=⟨[(0,.sl 1000000000 a b),(3,.i v.1)],[(1000000000,.arr 1 (v.2.map AV.i))]⟩
theorem w_ac(a:Nat)(b:Nat)(g:Int)(c:Int×Int×List Int)(o:(Int×Int×List Int)⊕(Int×List Int))(h:xT a b g c=some o):AWP (OkS Tryz.prog) qr (qL [0,3,4,5] [1000000000] (HU a b g) (qX 2 [0,3] [1000000000] (zt a b)) o) (HU a b g c):=by
 have e:=ZA @HU.eq_1 @zt.eq_1;unfold xT at h;simp only[ZC,HU,qr];obtain⟨d,h⟩|⟨d,h⟩:=aq h
 ·obtain⟨x,k,h⟩:=af h;obtain⟨s,l,h⟩:=af h;obtain⟨y,m,h⟩:=af h;obtain⟨z,p,h⟩:=af h;obtain⟨j,h⟩|⟨j,h⟩:=aq h
  ·obtain⟨a1,t,h⟩:=af h;obtain⟨b1,u,h⟩:=af h;obtain⟨v,q,h⟩:=aU h;have w:(c.2.2.map AV.i).set (a+(Int.toNat c.1)) (.i s)=v.map AV.i:=by rw[<-q,List.map_set]
   cases h;exact ZL (ZA d (ZA (aW k) (ZA l (ZA (aW m) (ZA p (ZA j (ZA (aW t) (ZA u w)))))))) (ZA e q.symm)
  ·cases h;exact ZL (ZA d (ZA (aW k) (ZA l (ZA (aW m) (ZA p j))))) e
 ·cases h;exact ZL d e
def ER(a:Nat)(b:Nat)(c:List Int)(v:Int):St:=⟨[(0,.sl 1000000000 a b),(3,.i v)],[(1000000000,.arr 1 (c.map AV.i))]⟩
def Ao(a:Nat)(b:Nat)(c:List Int)(v:Unit):St:=⟨[(0,.sl 1000000000 a b)],[(1000000000,.arr 1 (c.map AV.i))]⟩
theorem w_am(a:Nat)(b:Nat)(c:List Int)(j:Int)(o:Int⊕(Unit⊕(Nat×Nat×List Int)))(h:EL a b c j=some o):AWP (OkS Tryz.prog) pw (qL [0,3] [1000000000] (ER a b c) (qS (qX 0 [0] [1000000000] (Ao a b c)) (qM V10 [1000000000] (fun(r:Nat×Nat×List Int)=>.sl 1000000000 r.1 r.2.1) (fun(r:Nat×Nat×List Int)=>[(1000000000,.arr 1 (r.2.2.map AV.i))]))) o) (ER a b c j):=by
 have e:=ZA @ER.eq_1 @Ao.eq_1;unfold EL at h;simp only[ZC,ER,pw];obtain⟨d,h⟩|⟨d,h⟩:=aq h
 ·obtain⟨a1,l,h⟩:=af h;obtain⟨b1,m,h⟩:=af h;obtain⟨c1,p,h⟩:=af h;obtain⟨d1,q,h⟩:=af h;obtain⟨k,h⟩|⟨k,h⟩:=aq h
  ·obtain⟨g1,v,h⟩:=af h;obtain⟨g,w,h⟩:=af h;have f:=ZA d (ZA (aW l) (ZA m (ZA (aW p) (ZA q (ZA k (aW v))))));try refine ZF f ?_
   refine aF (bi (aI (w_ac a b j) w ?_)) ?_
   ·exact ZK (ZA @HU.eq_1 @zt.eq_1)
   ·simp only[ZC,zt,uz];obtain⟨i1,x,h⟩:=af h;obtain⟨s,t,h⟩:=aU h;have u:dI (g.2.map AV.i) (a+(Int.toNat g.1)) (List.replicate (b-(Int.toNat g.1)) (.i 0:AV))=s.map AV.i:=by rw[<-t,<-Gk]<;>simp[List.map_take]
    try simp only[Int.toNat_natCast] at u
    have y:s.length=g.2.length:=by rw[<-t];exact nf _ _ _
    obtain⟨j1,z,h⟩:=af h;cases h;exact ZL (ZA f (ZA (aW x) (ZA u (aW z)))) (ZA @V10.eq_1 y)
  ·cases h;exact ZL (ZA d (ZA (aW l) (ZA m (ZA (aW p) (ZA q k))))) e
 ·cases h;exact ZL d e
theorem w_fw(b:Nat)(c:Nat)(d:List Int){r:Nat×Nat×List Int}(h:GQ b c d=some r):OkM Tryz.prog 204 [.sl 1000000000 b c] [(1000000000,.arr 1 (d.map AV.i))] (.sl 1000000000 r.1 r.2.1) ([(1000000000,.arr 1 (r.2.2.map AV.i))]):=by
 refine aZ (lr:=[1000000000]) be Tb rfl rfl ?_;unfold GQ at h;simp only[ZC,La,V10];obtain⟨a,h⟩|⟨a,h⟩:=aq h
 ·cases h;exact ZL a @V10.eq_1
 ·obtain⟨g,j,h⟩:=af h;try refine ZF a ?_
  refine bq (o:=g) (bA vN (aI (w_am b c d) j ?_)) (fun l hv=>?_) (fun m hv e τ hne hq=>?_)
  ·exact ZK (ZA @ER.eq_1 @Ao.eq_1)
  ·subst hv;simp only[] at h;simp only[ZC,Ao,tP];cases h;exact ZL a @V10.eq_1
  ·subst hv;simp only[] at h;obtain⟨rfl,k⟩:=hq;cases h;exact k
def JE(a:List Int)(b:List Int)(v:Int×List Int):St:=⟨[(1,.lst .o 1 (b.map AV.i)),(5,.sl 5 0 v.2.length),(9,.lst .o 1 (a.map AV.i)),(10,.i (a.length:Int)),(11,.i v.1)],[(5,.arr 1 (v.2.map AV.i))]⟩
theorem w_bm(c:List Int)(d:List Int)(a:Int×List Int)(o:(Int×List Int)⊕(List Int))(h:xA c d a=some o):AWP (OkS Tryz.prog) yn (qL [1,5,9,10,11] [5] (JE c d) (qX 0 [5] [5] (nD)) o) (JE c d a):=by
 have e:=ZA @JE.eq_1 @nD.eq_1;unfold xA at h;simp only[ZC,JE,yn];obtain⟨g,h⟩|⟨g,h⟩:=aq h
 ·obtain⟨t,u,h⟩:=af h;obtain⟨z,v,h⟩:=af h;have f:=ZA g (aV u);refine ZF f ?_;refine ZSG f (Vf _ _ v) ?_;obtain⟨j,h⟩|⟨j,h⟩:=aq h
  ·obtain⟨k,b,h⟩:=aU h;have w:Row.arr 1 [(.i t:AV)]=Row.arr 1 (k.map AV.i):=by rw[<-b];rfl
   have m:k.length=1:=by rw[<-b];rfl
   obtain⟨a1,x,h⟩:=af h;have p:=aW x;obtain⟨q,l,h⟩:=aU h;have y:a.2.map AV.i++k.map AV.i=q.map AV.i:=by rw[<-l,List.map_append]
   have s:a.2.length+1=q.length:=by simp[<-b,<-l]<;>omega
   rw[s] at p;cases h;exact ZL (ZA f (ZA j (ZA w (ZA m (ZA p (ZA y s)))))) (ZA e (ZA b.symm (ZA l.symm m)))
  ·cases h;exact ZL (ZA f j) e
 ·cases h;exact ZL g e
theorem w_eb(a:List Int)(b:List Int){r:List Int}(h:Df a b=some r):Ok Tryz.prog 140 [.lst .o 1 (a.map AV.i),.lst .o 1 (b.map AV.i)] (.lst .u 1 (r.map AV.i)):=by
 refine aB be m140 rfl ?_;unfold Df at h;simp only[ZC,A140,aC,aL];obtain⟨p,d,h⟩:=af h;try refine ZF trivial ?_
 refine aF (bi (aI (w_bm a b) d ?_)) ?_
 ·exact ZK (ZA @JE.eq_1 @nD.eq_1)
 ·simp only[ZC,nD,LV];obtain⟨q,g,h⟩:=af h;refine ZF trivial ?_;refine ZWG trivial (w_eo _ g) [1000000000] [] ?_;obtain⟨c,j,h⟩:=af h;refine ZF trivial ?_;refine ZWG trivial (w_fw _ _ _ j) [1000000000] [] ?_;obtain⟨k,l,h⟩:=aU h;have m:sub (c.2.2.map AV.i) c.1 c.2.1=k.map AV.i:=by rw[bQ,l]
  cases h;exact ZL m @aC.eq_1
theorem Nh(a:ae)(c:List Int)(d:List Int){r:Bool}(h:wB a c d=some r):Ok Tryz.prog 136 [.agg [.lst .o 1 (a.Nodes.map AV.z),.lst .o 4 (a.Fibers.map (ai .o))],.lst .o 1 (c.map AV.i),.lst .o 1 (d.map AV.i)] (.b r):=by
 refine aB be m136 rfl ?_;unfold wB at h;simp only[ZC,A136,cx,aL];obtain⟨l,g,h⟩:=af h;refine ZF trivial ?_;refine ZUG trivial (w_ea _ _ g) ?_;obtain⟨m,j,h⟩:=af h;refine ZF trivial ?_;refine ZUG trivial (w_ea _ _ j) ?_;obtain⟨p,k,h⟩:=af h;refine ZF trivial ?_;refine ZUG trivial (w_eb _ _ k) ?_;cases h;exact ZL trivial @cx.eq_1
theorem w_ec(d:ae)(a:aj){r:Bool}(h:Dk d a=some r):Ok Tryz.prog 94 [.agg [.lst .o 1 (d.Nodes.map AV.z),.lst .o 4 (d.Fibers.map (ai .o))],.agg [.i a.Id,.i a.Class,.i a.Work.Start,.lst .o 1 (a.Work.Fibers.map AV.i),.i a.WorkBlock.First,.i a.WorkBlock.Count,.i a.Spare.Start,.lst .o 1 (a.Spare.Fibers.map AV.i),.i a.SpareBlock.First,.i a.SpareBlock.Count]] (.b r):=by
 have e:=@aC.eq_1;refine aB be m94 rfl ?_;unfold Dk at h;simp only[ZC,A94,aC,aL];obtain⟨c1,k1,h⟩:=af h;refine ZF trivial ?_;refine ZUG trivial (Vy _ _ k1) ?_;obtain⟨l1,m1,h⟩:=af h;try refine ZF trivial ?_
 refine aF (sh:=(fun v=>⟨[(2,.pt 2 0 0),(3,.pt 3 0 0),(5,.sl 5 0 c1.1.length),(35,.b v)],[(2,.var (.agg [.lst .o 1 (d.Nodes.map AV.z),.lst .o 4 (d.Fibers.map (ai .o))])),(3,.var (.agg [.i a.Id,.i a.Class,.i a.Work.Start,.lst .o 1 (a.Work.Fibers.map AV.i),.i a.WorkBlock.First,.i a.WorkBlock.Count,.i a.Spare.Start,.lst .o 1 (a.Spare.Fibers.map AV.i),.i a.SpareBlock.First,.i a.SpareBlock.Count])),(5,.arr 1 (c1.1.map AV.i))]⟩)) (s:=l1) ?_ ?_
 ·replace h:=m1;obtain⟨z1,p1,h⟩:=af h;refine ZF trivial ?_;refine ZSG trivial (w_d _ _ _ p1) ?_;obtain⟨c,h⟩|⟨c,h⟩:=aq h
  ·cases h;exact ZL c trivial
  ·obtain⟨a2,q1,h⟩:=af h;refine ZF c ?_;refine ZSG c (w_d _ _ _ q1) ?_;obtain⟨j,h⟩|⟨j,h⟩:=aq h
   ·cases h;exact ZL (ZA c j) trivial
   ·obtain⟨p,h⟩|⟨p,h⟩:=aq h
    ·cases h;exact ZL (ZA c (ZA j p)) trivial
    ·obtain⟨b2,s1,h⟩:=af h;have f:=ZA c (ZA j p);refine ZF f ?_;refine ZSG f (w_dz _ s1) ?_;cases h;exact ZL f trivial
 ·simp only[ZC,RL];obtain⟨k,h⟩|⟨k,h⟩:=aq h
  ·cases h;exact ZL k e
  ·obtain⟨q,h⟩|⟨q,h⟩:=aq h
   ·obtain⟨t1,u1,h⟩:=af h;have f:=ZA k q;try refine ZF f ?_
    refine aF (sh:=(fun v=>⟨[(4,.b v)],[]⟩)) (s:=t1) ?_ ?_
    ·replace h:=u1;obtain⟨l,h⟩|⟨l,h⟩:=aq h
     ·obtain⟨t,h⟩|⟨t,h⟩:=aq h
      ·cases h;exact ZL (ZA f (ZA l t)) trivial
      ·cases h;exact ZL (ZA f (ZA l t)) trivial
     ·cases h;exact ZL (ZA f l) trivial
    ·simp only[ZC,RG];cases h;exact ZL f e
   ·obtain⟨c2,v1,h⟩:=af h;have f:=ZA k q;refine ZF f ?_;refine ZUG f (Vy _ _ v1) ?_;obtain⟨u,h⟩|⟨u,h⟩:=aq h
    ·obtain⟨d2,w1,h⟩:=af h;have f:=ZA f u;refine ZF f ?_;refine ZSG f (w_dz _ w1) ?_;obtain⟨g,h⟩|⟨g,h⟩:=aq h
     ·obtain⟨g2,w,h⟩:=af h;obtain⟨i2,x,h⟩:=af h;obtain⟨j2,y,h⟩:=af h;obtain⟨k2,a1,h⟩:=af h;obtain⟨m,h⟩|⟨m,h⟩:=aq h
      ·obtain⟨l2,d1,h⟩:=af h;obtain⟨m2,g1,h⟩:=af h;obtain⟨p2,i1,h⟩:=af h;obtain⟨q2,j1,h⟩:=af h;obtain⟨b1,h⟩|⟨b1,h⟩:=aq h
       ·obtain⟨s2,y1,h⟩:=af h;have f:=ZA f (ZA g (ZA (aW w) (ZA x (ZA (aW y) (ZA a1 (ZA m (ZA (aW d1) (ZA g1 (ZA (aW i1) (ZA j1 b1))))))))));refine ZF f ?_;refine ZSG f (Nh _ _ _ y1) ?_;cases h;exact ZL f e
       ·cases h;exact ZL (ZA f (ZA g (ZA (aW w) (ZA x (ZA (aW y) (ZA a1 (ZA m (ZA (aW d1) (ZA g1 (ZA (aW i1) (ZA j1 b1))))))))))) e
      ·cases h;exact ZL (ZA f (ZA g (ZA (aW w) (ZA x (ZA (aW y) (ZA a1 m)))))) e
     ·cases h;exact ZL (ZA f g) e
    ·cases h;exact ZL (ZA f u) e
theorem w_ed(a:aM){r:Int}(h:Ev a=some r):Ok Tryz.prog 69 [.agg [.i a.First,.i a.Count]] (.i r):=by
 refine aB be m69 rfl ?_;unfold Ev at h;simp only[ZC,A69,V10,aL];obtain⟨d,b,h⟩:=af h;obtain⟨g,c,h⟩:=af h;cases h;exact ZL (ZA (aW b) (aW c)) @V10.eq_1
theorem w_gq(a:cw)(c:cw){r:Bool}(h:Nn a c=some r):Ok Tryz.prog 205 [.agg [.i a.Id,.i a.Route.Start,.lst .o 1 (a.Route.Fibers.map AV.i),.i a.Block.First,.i a.Block.Count],.agg [.i c.Id,.i c.Route.Start,.lst .o 1 (c.Route.Fibers.map AV.i),.i c.Block.First,.i c.Block.Count]] (.b r):=by
 refine aB be m205 rfl ?_;unfold Nn at h;simp only[ZC,A205,aC,aL];obtain⟨l,g,h⟩:=af h;refine ZF trivial ?_;refine ZSG trivial (w_ed _ g) ?_;obtain⟨m,j,h⟩:=af h;refine ZF trivial ?_;refine ZSG trivial (w_ed _ j) ?_;obtain⟨d,h⟩|⟨d,h⟩:=aq h
 ·obtain⟨p,k,h⟩:=af h;refine ZF d ?_;refine ZUG d (w_eb _ _ k) ?_;cases h;exact ZL d @aC.eq_1
 ·cases h;exact ZL d @aC.eq_1
theorem OX(a:ah)(c:aM)(d:ah)(g:aM){r:Bool}(h:uL a c d g=some r):Ok Tryz.prog 142 [.agg [.i a.Start,.lst .o 1 (a.Fibers.map AV.i)],.agg [.i c.First,.i c.Count],.agg [.i d.Start,.lst .o 1 (d.Fibers.map AV.i)],.agg [.i g.First,.i g.Count]] (.b r):=by
 refine aB be m142 rfl ?_;unfold uL at h;simp only[ZC,A142,DR,aL];obtain⟨k,j,h⟩:=af h;refine ZF trivial ?_;refine ZSG trivial (w_gq _ _ j) ?_;cases h;exact ZL trivial @DR.eq_1
theorem w_fx(j:ae)(a:aj)(c:aj){r:Bool}(h:Li j a c=some r):Ok Tryz.prog 97 [.agg [.lst .o 1 (j.Nodes.map AV.z),.lst .o 4 (j.Fibers.map (ai .o))],.agg [.i a.Id,.i a.Class,.i a.Work.Start,.lst .o 1 (a.Work.Fibers.map AV.i),.i a.WorkBlock.First,.i a.WorkBlock.Count,.i a.Spare.Start,.lst .o 1 (a.Spare.Fibers.map AV.i),.i a.SpareBlock.First,.i a.SpareBlock.Count],.agg [.i c.Id,.i c.Class,.i c.Work.Start,.lst .o 1 (c.Work.Fibers.map AV.i),.i c.WorkBlock.First,.i c.WorkBlock.Count,.i c.Spare.Start,.lst .o 1 (c.Spare.Fibers.map AV.i),.i c.SpareBlock.First,.i c.SpareBlock.Count]] (.b r):=by
 refine aB be m97 rfl ?_;unfold Li at h;simp only[ZC,A97,cx,aL];obtain⟨q,t,h⟩:=af h;try refine ZF trivial ?_
 refine aF (sh:=(fun v=>⟨[(3,.pt 3 0 0),(4,.pt 4 0 0),(5,.pt 5 0 0),(38,.b v)],[(3,.var (.agg [.lst .o 1 (j.Nodes.map AV.z),.lst .o 4 (j.Fibers.map (ai .o))])),(4,.var (.agg [.i a.Id,.i a.Class,.i a.Work.Start,.lst .o 1 (a.Work.Fibers.map AV.i),.i a.WorkBlock.First,.i a.WorkBlock.Count,.i a.Spare.Start,.lst .o 1 (a.Spare.Fibers.map AV.i),.i a.SpareBlock.First,.i a.SpareBlock.Count])),(5,.var (.agg [.i c.Id,.i c.Class,.i c.Work.Start,.lst .o 1 (c.Work.Fibers.map AV.i),.i c.WorkBlock.First,.i c.WorkBlock.Count,.i c.Spare.Start,.lst .o 1 (c.Spare.Fibers.map AV.i),.i c.SpareBlock.First,.i c.SpareBlock.Count]))]⟩)) (s:=q) ?_ ?_
 ·replace h:=t;obtain⟨d1,u,h⟩:=af h;refine ZF trivial ?_;refine ZSG trivial (OX _ _ _ _ u) ?_;obtain⟨g,h⟩|⟨g,h⟩:=aq h
  ·cases h;exact ZL g trivial
  ·obtain⟨g1,w,h⟩:=af h;refine ZF g ?_;refine ZSG g (OX _ _ _ _ w) ?_;obtain⟨l,h⟩|⟨l,h⟩:=aq h
   ·cases h;exact ZL (ZA g l) trivial
   ·obtain⟨i1,x,h⟩:=af h;have f:=ZA g l;refine ZF f ?_;refine ZSG f (OX _ _ _ _ x) ?_;cases h;exact ZL f trivial
 ·simp only[ZC,RK];obtain⟨d,h⟩|⟨d,h⟩:=aq h
  ·cases h;exact ZL d @cx.eq_1
  ·obtain⟨y,a1,h⟩:=af h;try refine ZF d ?_
   refine aF (sh:=(fun v=>⟨[(4,.pt 4 0 0),(5,.pt 5 0 0),(7,.b v)],[(4,.var (.agg [.i a.Id,.i a.Class,.i a.Work.Start,.lst .o 1 (a.Work.Fibers.map AV.i),.i a.WorkBlock.First,.i a.WorkBlock.Count,.i a.Spare.Start,.lst .o 1 (a.Spare.Fibers.map AV.i),.i a.SpareBlock.First,.i a.SpareBlock.Count])),(5,.var (.agg [.i c.Id,.i c.Class,.i c.Work.Start,.lst .o 1 (c.Work.Fibers.map AV.i),.i c.WorkBlock.First,.i c.WorkBlock.Count,.i c.Spare.Start,.lst .o 1 (c.Spare.Fibers.map AV.i),.i c.SpareBlock.First,.i c.SpareBlock.Count]))]⟩)) (s:=y) ?_ ?_
   ·replace h:=a1;obtain⟨k,h⟩|⟨k,h⟩:=aq h
    ·obtain⟨m,h⟩|⟨m,h⟩:=aq h
     ·obtain⟨j1,b1,h⟩:=af h;have f:=ZA d (ZA k m);refine ZF f ?_;refine ZSG f (Nh _ _ _ b1) ?_;cases h;exact ZL f trivial
     ·cases h;exact ZL (ZA d (ZA k m)) trivial
    ·cases h;exact ZL (ZA d k) trivial
   ·simp only[ZC,Sk];obtain⟨p,h⟩|⟨p,h⟩:=aq h
    ·cases h;exact ZL (ZA d p) @cx.eq_1
    ·obtain⟨k1,c1,h⟩:=af h;have f:=ZA d p;refine ZF f ?_;refine ZSG f (OX _ _ _ _ c1) ?_;cases h;exact ZL f @cx.eq_1
theorem w_ee(g:ae)(a:aj)(c:aj){r:Bool×Bool}(h:BC g a c=some r):Ok Tryz.prog 58 [.agg [.lst .o 1 (g.Nodes.map AV.z),.lst .o 4 (g.Fibers.map (ai .o))],.agg [.i a.Id,.i a.Class,.i a.Work.Start,.lst .o 1 (a.Work.Fibers.map AV.i),.i a.WorkBlock.First,.i a.WorkBlock.Count,.i a.Spare.Start,.lst .o 1 (a.Spare.Fibers.map AV.i),.i a.SpareBlock.First,.i a.SpareBlock.Count],.agg [.i c.Id,.i c.Class,.i c.Work.Start,.lst .o 1 (c.Work.Fibers.map AV.i),.i c.WorkBlock.First,.i c.WorkBlock.Count,.i c.Spare.Start,.lst .o 1 (c.Spare.Fibers.map AV.i),.i c.SpareBlock.First,.i c.SpareBlock.Count]] (.tup [.b r.1,.b r.2]):=by
 refine aB be m58 rfl ?_;unfold BC at h;simp only[ZC,A58,eB,aL];obtain⟨l,m,h⟩:=af h;try refine ZF trivial ?_
 refine aF (sh:=(fun v=>⟨[(3,.pt 3 0 0),(4,.pt 4 0 0),(5,.pt 5 0 0),(22,.b v)],[(3,.var (.agg [.lst .o 1 (g.Nodes.map AV.z),.lst .o 4 (g.Fibers.map (ai .o))])),(4,.var (.agg [.i a.Id,.i a.Class,.i a.Work.Start,.lst .o 1 (a.Work.Fibers.map AV.i),.i a.WorkBlock.First,.i a.WorkBlock.Count,.i a.Spare.Start,.lst .o 1 (a.Spare.Fibers.map AV.i),.i a.SpareBlock.First,.i a.SpareBlock.Count])),(5,.var (.agg [.i c.Id,.i c.Class,.i c.Work.Start,.lst .o 1 (c.Work.Fibers.map AV.i),.i c.WorkBlock.First,.i c.WorkBlock.Count,.i c.Spare.Start,.lst .o 1 (c.Spare.Fibers.map AV.i),.i c.SpareBlock.First,.i c.SpareBlock.Count]))]⟩)) (s:=l) ?_ ?_
 ·replace h:=m;obtain⟨w,p,h⟩:=af h;refine ZF trivial ?_;refine ZSG trivial (PQ _ p) ?_;obtain⟨d,h⟩|⟨d,h⟩:=aq h
  ·cases h;exact ZL d trivial
  ·obtain⟨x,q,h⟩:=af h;refine ZF d ?_;refine ZSG d (w_ec _ _ q) ?_;obtain⟨k,h⟩|⟨k,h⟩:=aq h
   ·cases h;exact ZL (ZA d k) trivial
   ·obtain⟨y,t,h⟩:=af h;have f:=ZA d k;refine ZF f ?_;refine ZSG f (w_ec _ _ t) ?_;cases h;exact ZL f trivial
 ·simp only[ZC,RZ];obtain⟨j,h⟩|⟨j,h⟩:=aq h
  ·cases h;exact ZL j @eB.eq_1
  ·obtain⟨a1,u,h⟩:=af h;refine ZF j ?_;refine ZSG j (w_fx _ _ _ u) ?_;cases h;exact ZL j @eB.eq_1
theorem w_fy(g:ae)(a:aj)(c:aj){r:Bool×Bool}(h:Js g a c=some r):Ok Tryz.prog 59 [.agg [.lst .o 1 (g.Nodes.map AV.z),.lst .o 4 (g.Fibers.map (ai .o))],.agg [.i a.Id,.i a.Class,.i a.Work.Start,.lst .o 1 (a.Work.Fibers.map AV.i),.i a.WorkBlock.First,.i a.WorkBlock.Count,.i a.Spare.Start,.lst .o 1 (a.Spare.Fibers.map AV.i),.i a.SpareBlock.First,.i a.SpareBlock.Count],.agg [.i c.Id,.i c.Class,.i c.Work.Start,.lst .o 1 (c.Work.Fibers.map AV.i),.i c.WorkBlock.First,.i c.WorkBlock.Count,.i c.Spare.Start,.lst .o 1 (c.Spare.Fibers.map AV.i),.i c.SpareBlock.First,.i c.SpareBlock.Count]] (.tup [.b r.1,.b r.2]):=by
 refine aB be m59 rfl ?_;unfold Js at h;simp only[ZC,A59,eB,aL];obtain⟨l,m,h⟩:=af h;try refine ZF trivial ?_
 refine aF (sh:=(fun v=>⟨[(3,.pt 3 0 0),(4,.pt 4 0 0),(5,.pt 5 0 0),(22,.b v)],[(3,.var (.agg [.lst .o 1 (g.Nodes.map AV.z),.lst .o 4 (g.Fibers.map (ai .o))])),(4,.var (.agg [.i a.Id,.i a.Class,.i a.Work.Start,.lst .o 1 (a.Work.Fibers.map AV.i),.i a.WorkBlock.First,.i a.WorkBlock.Count,.i a.Spare.Start,.lst .o 1 (a.Spare.Fibers.map AV.i),.i a.SpareBlock.First,.i a.SpareBlock.Count])),(5,.var (.agg [.i c.Id,.i c.Class,.i c.Work.Start,.lst .o 1 (c.Work.Fibers.map AV.i),.i c.WorkBlock.First,.i c.WorkBlock.Count,.i c.Spare.Start,.lst .o 1 (c.Spare.Fibers.map AV.i),.i c.SpareBlock.First,.i c.SpareBlock.Count]))]⟩)) (s:=l) ?_ ?_
 ·replace h:=m;obtain⟨w,p,h⟩:=af h;refine ZF trivial ?_;refine ZSG trivial (NC _ p) ?_;obtain⟨d,h⟩|⟨d,h⟩:=aq h
  ·cases h;exact ZL d trivial
  ·obtain⟨x,q,h⟩:=af h;refine ZF d ?_;refine ZSG d (Tc _ _ q) ?_;obtain⟨k,h⟩|⟨k,h⟩:=aq h
   ·cases h;exact ZL (ZA d k) trivial
   ·obtain⟨y,t,h⟩:=af h;have f:=ZA d k;refine ZF f ?_;refine ZSG f (Tc _ _ t) ?_;cases h;exact ZL f trivial
 ·simp only[ZC,Rm];obtain⟨j,h⟩|⟨j,h⟩:=aq h
  ·cases h;exact ZL j @eB.eq_1
  ·obtain⟨a1,u,h⟩:=af h;refine ZF j ?_;refine ZSG j (Uj _ _ _ u) ?_;cases h;exact ZL j @eB.eq_1
def Ih(v:Nat×Nat×Int×List az×ax):St:=⟨[(0,.pt 1000000000 0 0),(3,.sl 3 v.1 v.2.1),(6,.i v.2.2.1)],[(3,.arr 2 (v.2.2.2.1.map (au .u))),(1000000000,.var (.agg [.lst .o 1 (((v.2.2.2.2).code).map AV.u8),.i ((v.2.2.2.2).atF),.sc (.int .u64 ((v.2.2.2.2).seed))]))]⟩
def Ab(v:Nat×Nat×List az×ax):St:=⟨[(3,.sl 3 v.1 v.2.1)],[(3,.arr 2 (v.2.2.1.map (au .u))),(1000000000,.var (.agg [.lst .o 1 (((v.2.2.2).code).map AV.u8),.i ((v.2.2.2).atF),.sc (.int .u64 ((v.2.2.2).seed))]))]⟩
theorem w_an(a:Nat×Nat×Int×List az×ax)(o:(Nat×Nat×Int×List az×ax)⊕(Nat×Nat×List az×ax))(h:Dv a=some o):AWP (OkS Tryz.prog) sF (qL [0,3,6] [3,1000000000] (Ih) (qX 1 [3] [3,1000000000] (Ab)) o) (Ih a):=by
 have e:=ZA @Ih.eq_1 @Ab.eq_1;unfold Dv at h;simp only[ZC,Ih,sF];obtain⟨w,k,h⟩:=af h;refine ZF trivial ?_;refine ZWG trivial (w_a _ _ k) [1000000000] [] ?_;obtain⟨b,h⟩|⟨b,h⟩:=aq h
 ·obtain⟨c,d,h⟩:=aU h;have l:Row.arr 2 [(.agg [.i (IntKind.wrap .i64 (200-(IntKind.wrap .i64 (10*a.2.2.1)))),.i (IntKind.wrap .i64 (90+a.2.2.1))]:AV)]=Row.arr 2 (c.map (au .u)):=by rw[<-d];rfl
  have g:c.length=1:=by rw[<-d];rfl
  obtain⟨j,m,h⟩:=aU h;have p:sub (a.2.2.2.1.map (au .u)) a.1 a.2.1=j.map (au .u):=by rw[bQ,m]
  obtain⟨x,q,h⟩:=af h;obtain⟨s,t,h⟩:=aU h;have v:j.map (au .u)++c.map (au .u)=s.map (au .u):=by rw[<-t,List.map_append]
  cases h;exact ZL (ZA b (ZA l (ZA g (ZA p (ZA (aW q) v))))) (ZA e (ZA d.symm g))
 ·cases h;exact ZL b e
theorem w_fz(j:ax){r:Nat×Nat×List az×ax}(h:Gw j=some r):OkM Tryz.prog 83 [.pt 1000000000 0 0] [(1000000000,.var (.agg [.lst .o 1 (((j).code).map AV.u8),.i ((j).atF),.sc (.int .u64 ((j).seed))]))] (.sl 2 r.1 r.2.1) ([(2,.arr 2 (r.2.2.1.map (au .u))),(1000000000,.var (.agg [.lst .o 1 (((r.2.2.2).code).map AV.u8),.i ((r.2.2.2).atF),.sc (.int .u64 ((r.2.2.2).seed))]))]):=by
 refine aZ (lr:=[2,1000000000]) be VL rfl rfl ?_;unfold Gw at h;simp only[ZC,Rt,V10];obtain⟨c,d,h⟩:=aU h;have i1:Row.arr 2 [(.agg [.i 3000,.i 10]:AV),(.agg [.i 1200,.i 20]:AV),(.agg [.i 600,.i 40]:AV),(.agg [.i 250,.i 80]:AV)]=Row.arr 2 (c.map (au .u)):=by rw[<-d];rfl
 have a:c.length=4:=by rw[<-d];rfl
 obtain⟨j2,j1,h⟩:=af h;have f:=ZA i1 a;refine ZF f ?_;refine ZWG f (w_a _ _ j1) [1000000000] [] ?_;obtain⟨k2,k1,h⟩:=af h;obtain⟨k,l1,h⟩:=af h;have f:=ZA f (aW k1);try refine ZF f ?_
 refine aF (sh:=(fun v=>⟨[(0,.pt 1000000000 0 0),(3,.sl 3 v.1 v.2.1)],[(3,.arr 2 (c.map (au .u))),(1000000000,.var (.agg [.lst .o 1 (((v.2.2).code).map AV.u8),.i ((v.2.2).atF),.sc (.int .u64 ((v.2.2).seed))]))]⟩)) (s:=k) ?_ ?_
 ·replace h:=l1;obtain⟨l2,m1,h⟩:=af h;refine ZF f ?_;refine ZWG f (Nv _ _ m1) [1000000000] [] ?_;obtain⟨m,h⟩|⟨m,h⟩:=aq h
  ·have f:=ZA f m;try refine ZF f ?_
   simp only[ZC,sZ];obtain⟨p,h⟩|⟨p,h⟩:=aq h
   ·obtain⟨m2,p1,h⟩:=af h;cases h;exact ZL (ZA f (ZA p (aW p1))) (ZA d.symm a)
   ·cases h;exact ZL (ZA f p) (ZA d.symm a)
  ·have f:=ZA f m;try refine ZF f ?_
   simp only[ZC,sZ];cases h;exact ZL f (ZA d.symm a)
 ·simp only[ZC,Ay];obtain⟨y,q1,h⟩:=af h;refine ZF f ?_;refine ZWG f (w_a _ _ q1) [1000000000] [] ?_;obtain⟨p2,s1,h⟩:=af h;obtain⟨q2,t1,h⟩:=af h;obtain⟨u1,v1,h⟩:=af h;have f:=ZA f (ZA (aW s1) t1);try refine ZF f ?_
  refine bq (sh:=(fun v=>⟨[(3,.sl 3 k.1 k.2.1),(4,.i y.1),(5,.pt 5 0 0)],[(3,.arr 2 (c.map (au .u))),(5,.var (.agg [.i ((v.1).Reach),.i ((v.1).Rate)])),(1000000000,.var (.agg [.lst .o 1 (((v.2).code).map AV.u8),.i ((v.2).atF),.sc (.int .u64 ((v.2).seed))]))]⟩)) (q:=(qM V10 [2,1000000000] (fun(r:Nat×Nat×List az×ax)=>.sl 2 r.1 r.2.1) (fun(r:Nat×Nat×List az×ax)=>[(2,.arr 2 (r.2.2.1.map (au .u))),(1000000000,.var (.agg [.lst .o 1 (((r.2.2.2).code).map AV.u8),.i ((r.2.2.2).atF),.sc (.int .u64 ((r.2.2.2).seed))]))]))) (o:=u1) ?_ (fun z hv=>?_) (fun s2 hv e τ hne hq=>?_)
  ·replace h:=v1;obtain⟨t2,w1,h⟩:=af h;refine ZF f ?_;refine ZWG f (w_a _ _ w1) [1000000000] [] ?_;obtain⟨b,h⟩|⟨b,h⟩:=aq h
   ·obtain⟨a1,t,h⟩:=aU h;have y1:Row.arr 1 [(.i 0:AV),(.i 20000:AV),(.i 20001:AV),(.i 250:AV)]=Row.arr 1 (a1.map AV.i):=by rw[<-t];rfl
    have b1:a1.length=4:=by rw[<-t];rfl
    obtain⟨u2,z1,h⟩:=af h;have f:=ZA f (ZA b (ZA y1 b1));refine ZF f ?_;refine ZWG f (w_e _ _ z1) [1000000000,1000000001] [] ?_;cases h;exact ZL f (ZA t.symm (ZA a b1))
   ·obtain⟨g,h⟩|⟨g,h⟩:=aq h
    ·obtain⟨c1,w,h⟩:=aU h;have a2:Row.arr 1 [(.i 0:AV),(.i 1000:AV),(.i 1001:AV),(.i 10:AV)]=Row.arr 1 (c1.map AV.i):=by rw[<-w];rfl
     have d1:c1.length=4:=by rw[<-w];rfl
     obtain⟨v2,b2,h⟩:=af h;have f:=ZA f (ZA b (ZA g (ZA a2 d1)));refine ZF f ?_;refine ZWG f (w_e _ _ b2) [1000000000,1000000001] [] ?_;cases h;exact ZL f (ZA w.symm (ZA a d1))
    ·obtain⟨l,h⟩|⟨l,h⟩:=aq h
     ·cases h;exact ZL (ZA f (ZA b (ZA g l))) (ZA @V10.eq_1 a)
     ·obtain⟨x,h⟩|⟨x,h⟩:=aq h
      ·obtain⟨w2,c2,h⟩:=af h;have f:=ZA f (ZA b (ZA g (ZA l x)));try refine ZF f ?_
       refine aF (bi (aI (w_an) c2 ?_)) ?_
       ·exact ZK (ZA @Ih.eq_1 (ZA @Ab.eq_1 a))
       ·simp only[ZC,Ab,zV];cases h;exact ZL f (ZA @V10.eq_1 a)
      ·cases h;exact ZL (ZA f (ZA b (ZA g (ZA l x)))) a
  ·subst hv;simp only[] at h;simp only[ZC,zY];obtain⟨d2,g1,h⟩:=aU h;have g2:(c.map (au .u)).set (k.1+(Int.toNat y.1)) (.agg [.i ((z.1).Reach),.i ((z.1).Rate)])=d2.map (au .u):=by rw[<-g1,List.map_set];rfl
   cases h;exact ZL (ZA f g2) (ZA @V10.eq_1 (ZA g1.symm a))
  ·subst hv;simp only[] at h;obtain⟨rfl,i2⟩:=hq;cases h;exact i2
theorem w_gr(c:List Int){r:ae×List az×aK}(h:NP c=some r):Ok Tryz.prog 134 [.lst .o 1 (c.map AV.u8)] (.tup [.agg [.lst .u 1 (r.1.Nodes.map AV.z),.lst .u 4 (r.1.Fibers.map (ai .u))],.lst .u 2 (r.2.1.map (au .u)),.agg [.i r.2.2.From,.i r.2.2.To,.i r.2.2.Rate,.i r.2.2.Class]]):=by
 refine aB be m134 rfl ?_;unfold NP at h;simp only[ZC,A134,DF,aL];obtain⟨a,g,h⟩:=af h;refine ZF trivial ?_;refine ZWG trivial (w_dy _ g) [500000128,500000129,1000000000] [501200128,501200129] ?_;obtain⟨b,j,h⟩:=af h;refine ZF trivial ?_;refine ZWG trivial (w_fz _ j) [2,1000000000] [1500002] ?_;obtain⟨d,k,h⟩:=af h;refine ZF trivial ?_;refine ZWG trivial (w_fb _ _ _ _ _ k) [1000000000,1000000001,1000000002] [] ?_;obtain⟨l,m,h⟩:=aU h;have p:sub (d.2.2.1.map AV.z) a.1 a.2.1=l.map AV.z:=by rw[bQ,m]
 obtain⟨q,s,h⟩:=aU h;have t:sub (d.2.2.2.map (ai .u)) 0 a.2.2.2.1.length=q.map (ai .u):=by rw[bQ,s]
 obtain⟨v,w,h⟩:=aU h;have x:sub (b.2.2.1.map (au .u)) b.1 b.2.1=v.map (au .u):=by rw[bQ,w]
 cases h;exact ZL (ZA p (ZA t x)) @DF.eq_1
theorem w_ga(a:List Int){r:ae×List az×aK}(h:MO a=some r):Ok Tryz.prog 60 [.lst .o 1 (a.map AV.u8)] (.tup [.agg [.lst .u 1 (r.1.Nodes.map AV.z),.lst .u 4 (r.1.Fibers.map (ai .u))],.lst .u 2 (r.2.1.map (au .u)),.agg [.i r.2.2.From,.i r.2.2.To,.i r.2.2.Rate,.i r.2.2.Class]]):=by
 refine aB be m60 rfl ?_;unfold MO at h;simp only[ZC,A60,DF,aL];obtain⟨c,b,h⟩:=af h;refine ZF trivial ?_;refine ZUG trivial (w_gr _ b) ?_;cases h;exact ZL trivial @DF.eq_1
def yQ(a:List az)(v:Int):St:=⟨[(0,.lst .o 2 (a.map (au .o))),(5,.lst .o 2 (a.map (au .o))),(6,.i (a.length:Int)),(7,.i v)],[]⟩
theorem w_bd(d:List az)(m:Int)(o:Int⊕(Unit⊕Bool))(h:Cm d m=some o):AWP (OkS Tryz.prog) yf (qL [0,5,6,7] [] (yQ d) (qS (qX 0 [0] [] (rj d)) (qR V10 (fun r=>.b r))) o) (yQ d m):=by
 have e:=@V10.eq_1;unfold Cm at h;simp only[ZC,yQ,yf];obtain⟨i,h⟩|⟨i,h⟩:=aq h
 ·obtain⟨t,p,h⟩:=af h;obtain⟨u,q,h⟩:=af h;have f:=ZA i (aV p);refine ZF f ?_;refine ZSG f (w_d _ _ _ q) ?_;obtain⟨j,h⟩|⟨j,h⟩:=aq h
  ·cases h;exact ZL (ZA f j) e
  ·obtain⟨v,s,h⟩:=af h;have f:=ZA f j;refine ZF f ?_;refine ZSG f (w_d _ _ _ s) ?_;obtain⟨a,h⟩|⟨a,h⟩:=aq h
   ·cases h;exact ZL (ZA f a) e
   ·obtain⟨c,h⟩|⟨c,h⟩:=aq h
    ·obtain⟨w,k,h⟩:=af h;obtain⟨g,h⟩|⟨g,h⟩:=aq h
     ·cases h;exact ZL (ZA f (ZA a (ZA c (ZA (aV k) g)))) e
     ·obtain⟨l,h⟩|⟨l,h⟩:=aq h
      ·cases h;exact ZL (ZA f (ZA a (ZA c (ZA (aV k) (ZA g l))))) e
      ·cases h;exact ZL (ZA f (ZA a (ZA c (ZA (aV k) (ZA g l))))) (ZA @yQ.eq_1 @rj.eq_1)
    ·cases h;exact ZL (ZA f (ZA a c)) (ZA @yQ.eq_1 @rj.eq_1)
 ·cases h;exact ZL i (ZA @yQ.eq_1 @rj.eq_1)
theorem w_ef(a:List az){r:Bool}(h:Db a=some r):Ok Tryz.prog 219 [.lst .o 2 (a.map (au .o))] (.b r):=by
 refine aB be m219 rfl ?_;unfold Db at h;simp only[ZC,A219,V10,aL];obtain⟨c,d,h⟩:=af h;try refine ZF trivial ?_
 refine bq (o:=c) (bA dc (aI (w_bd a) d ?_)) (fun j hv=>?_) (fun k hv e τ hne hq=>?_)
 ·exact ZK (ZA @yQ.eq_1 @rj.eq_1)
 ·subst hv;simp only[] at h;simp only[ZC,rj,Hl];obtain⟨l,g,h⟩:=af h;refine ZF trivial ?_;refine ZSG trivial (w_d _ _ _ g) ?_;cases h;exact ZL trivial @V10.eq_1
 ·subst hv;simp only[] at h;obtain⟨rfl,i⟩:=hq;cases h;exact i
theorem w_eq(g:ae)(c:aK){r:Bool}(h:Kh g c=some r):Ok Tryz.prog 243 [.agg [.lst .o 1 (g.Nodes.map AV.z),.lst .o 4 (g.Fibers.map (ai .o))],.agg [.i c.From,.i c.To,.i c.Rate,.i c.Class]] (.b r):=by
 have e:=@aC.eq_1;refine aB be m243 rfl ?_;unfold Kh at h;simp only[ZC,A243,aC,aL];obtain⟨s,l,h⟩:=af h;refine ZF trivial ?_;refine ZSG trivial (w_d _ _ _ l) ?_;obtain⟨a,h⟩|⟨a,h⟩:=aq h
 ·obtain⟨t,m,h⟩:=af h;refine ZF a ?_;refine ZSG a (w_d _ _ _ m) ?_;obtain⟨d,h⟩|⟨d,h⟩:=aq h
  ·obtain⟨j,h⟩|⟨j,h⟩:=aq h
   ·obtain⟨u,p,h⟩:=af h;have f:=ZA a (ZA d j);refine ZF f ?_;refine ZSG f (w_d _ _ _ p) ?_;obtain⟨k,h⟩|⟨k,h⟩:=aq h
    ·obtain⟨v,q,h⟩:=af h;have f:=ZA f k;refine ZF f ?_;refine ZSG f (w_d _ _ _ q) ?_;cases h;exact ZL f e
    ·cases h;exact ZL (ZA f k) e
   ·cases h;exact ZL (ZA a (ZA d j)) e
  ·cases h;exact ZL (ZA a d) e
 ·cases h;exact ZL a e
theorem w_gi(a:aK)(p1Z0:ae){r:Bool}(h:Nd a p1Z0=some r):Ok Tryz.prog 242 [.agg [.i a.From,.i a.To,.i a.Rate,.i a.Class],.bp .o (.agg [.lst .o 1 (p1Z0.Nodes.map AV.z),.lst .o 4 (p1Z0.Fibers.map (ai .o))]) 0] (.b r):=by
 refine aB be m242 rfl ?_;unfold Nd at h;simp only[ZC,A242,sH,aL];obtain⟨d,c,h⟩:=af h;refine ZF trivial ?_;refine ZSG trivial (w_eq _ _ c) ?_;cases h;exact ZL trivial @sH.eq_1
def Ka(a:List aK)(F_fZ0:Nat)(C_fZ0:List AV)(v:Int):St:=⟨[(0,.lst .o 4 (a.map (aR .o))),(1,.fn F_fZ0 C_fZ0),(7,.i (a.length:Int)),(8,.i v)],[]⟩
theorem w_bo(c:List aK)(j:aK->Option Bool)(F_fZ0:Nat)(C_fZ0:List AV)(hC_fZ0:mj C_fZ0)(hf_fZ0:∀(x0:aK)(r:Bool),j x0=some r->Ok Tryz.prog F_fZ0 ((.agg [.i x0.From,.i x0.To,.i x0.Rate,.i x0.Class])::C_fZ0) (.b r))(k:Int)(o:Int⊕(Unit⊕Int))(h:CG c j k=some o):AWP (OkS Tryz.prog) xU (qL [0,1,7,8] [] (Ka c F_fZ0 C_fZ0) (qS (qX 0 [] [] (cy)) (qR aC (fun r=>.i r))) o) (Ka c F_fZ0 C_fZ0 k):=by
 have e:=ZA @Ka.eq_1 @cy.eq_1;unfold CG at h;simp only[ZC,Ka,xU];obtain⟨a,h⟩|⟨a,h⟩:=aq h
 ·obtain⟨m,d,h⟩:=af h;obtain⟨p,l,h⟩:=af h;have f:=ZA a (aV d);refine ZF f ?_;have f:=ZA f hC_fZ0.1;refine ZSG f (hf_fZ0 _ _ l) ?_;obtain⟨g,h⟩|⟨g,h⟩:=aq h
  ·cases h;exact ZL (ZA a (ZA (aV d) g)) (ZA @aC.eq_1 (ZA hC_fZ0.2 ((ck hC_fZ0))))
  ·cases h;exact ZL (ZA a (ZA (aV d) g)) (ZA e (ZA hC_fZ0.2 ((ck hC_fZ0))))
 ·cases h;exact ZL a (ZA e (ZA hC_fZ0.2 ((ck hC_fZ0))))
theorem w_gh(a:List aK)(c:aK->Option Bool){r:Int}(h:Qd a c=some r)(F_fZ0:Nat)(C_fZ0:List AV)(hC_fZ0:mj C_fZ0)(hf_fZ0:∀(x0:aK)(r:Bool),c x0=some r->Ok Tryz.prog F_fZ0 ((.agg [.i x0.From,.i x0.To,.i x0.Rate,.i x0.Class])::C_fZ0) (.b r)):Ok Tryz.prog 262 [.lst .o 4 (a.map (aR .o)),.fn F_fZ0 C_fZ0] (.i r):=by
 refine aB be m262 rfl ?_;unfold Qd at h;simp only[ZC,A262,aC,aL];obtain⟨d,g,h⟩:=af h;try refine ZF trivial ?_
 refine bq (o:=d) (bA dc (aI (w_bo a c F_fZ0 C_fZ0 hC_fZ0 hf_fZ0) g ?_)) (fun k hv=>?_) (fun l hv e τ hne hq=>?_)
 ·exact ZK (ZA @Ka.eq_1 (ZA @cy.eq_1 (ZA hC_fZ0.2 ((ck hC_fZ0)))))
 ·subst hv;simp only[] at h;simp only[ZC,cy,GX];cases h;exact ZL trivial (ZA @aC.eq_1 (ZA hC_fZ0.2 ((ck hC_fZ0))))
 ·subst hv;simp only[] at h;obtain⟨rfl,j⟩:=hq;cases h;exact j
theorem w_er(a:List aK)(c:aK->Option Bool){r:Bool}(h:HO a c=some r)(F_fZ0:Nat)(C_fZ0:List AV)(hC_fZ0:mj C_fZ0)(hf_fZ0:∀(x0:aK)(r:Bool),c x0=some r->Ok Tryz.prog F_fZ0 ((.agg [.i x0.From,.i x0.To,.i x0.Rate,.i x0.Class])::C_fZ0) (.b r)):Ok Tryz.prog 241 [.lst .o 4 (a.map (aR .o)),.fn F_fZ0 C_fZ0] (.b r):=by
 refine aB be m241 rfl ?_;unfold HO at h;simp only[ZC,A241,aC,aL];obtain⟨g,d,h⟩:=af h;refine ZF trivial ?_;refine ZSG hC_fZ0.1 (w_gh _ _ d F_fZ0 C_fZ0 hC_fZ0 hf_fZ0) ?_;cases h;exact ZL trivial (ZA @aC.eq_1 (ZA hC_fZ0.2 ((ck hC_fZ0))))
theorem w_es(a:ae)(g:List aK){r:Bool}(h:EY a g=some r):Ok Tryz.prog 220 [.agg [.lst .o 1 (a.Nodes.map AV.z),.lst .o 4 (a.Fibers.map (ai .o))],.lst .o 4 (g.map (aR .o))] (.b r):=by
 refine aB be m220 rfl ?_;unfold EY at h;simp only[ZC,A220,aC,aL];obtain⟨l,i,h⟩:=af h;refine ZF trivial ?_;refine ZSG trivial (PQ _ i) ?_;obtain⟨c,h⟩|⟨c,h⟩:=aq h
 ·obtain⟨d,h⟩|⟨d,h⟩:=aq h
  ·obtain⟨m,j,h⟩:=af h;have f:=ZA c d;refine ZF f ?_;refine ZSG f (w_er _ _ j 242 [.bp .o (.agg [.lst .o 1 (a.Nodes.map AV.z),.lst .o 4 (a.Fibers.map (ai .o))]) 0] ⟨fun ρ k=>by simp only[VS1,VS2,VS3,VS4,VS5,VS6,VT1,VT2,cb,cd,decide_true,decide_false,List.nodup_nil,List.nodup_cons,fA,fw,fq,ne_eq,not_false_eq_true,Int.reduceEq,Int.reduceNe,true_and,false_and,Nat.reduceSub,Nat.reduceMul,↓reduceIte,reduceCtorEq,Nat.reduceEqDiff,Nat.reduceAdd,Nat.reduceLeDiff,Int.reduceLE],by simp[aO,AV.ments]⟩ (fun _ _ h=>w_gi _ _ h)) ?_;cases h;exact ZL f @aC.eq_1
  ·cases h;exact ZL (ZA c d) @aC.eq_1
 ·cases h;exact ZL c @aC.eq_1
theorem w_gl(a:Int)(p1Z0:ae){r:Bool}(h:Qm a p1Z0=some r):Ok Tryz.prog 263 [.i a,.bp .o (.agg [.lst .o 1 (p1Z0.Nodes.map AV.z),.lst .o 4 (p1Z0.Fibers.map (ai .o))]) 0] (.b r):=by
 refine aB be m263 rfl ?_;unfold Qm at h;simp only[ZC,A263,sH,aL];obtain⟨d,c,h⟩:=af h;refine ZF trivial ?_;refine ZSG trivial (w_d _ _ _ c) ?_;cases h;exact ZL trivial @sH.eq_1
def IQ(a:List Int)(F_fZ0:Nat)(C_fZ0:List AV)(v:Int):St:=⟨[(0,.lst .o 1 (a.map AV.i)),(1,.fn F_fZ0 C_fZ0),(7,.i (a.length:Int)),(8,.i v)],[]⟩
theorem w_bp(c:List Int)(j:Int->Option Bool)(F_fZ0:Nat)(C_fZ0:List AV)(hC_fZ0:mj C_fZ0)(hf_fZ0:∀(x0:Int)(r:Bool),j x0=some r->Ok Tryz.prog F_fZ0 ((.i x0)::C_fZ0) (.b r))(k:Int)(o:Int⊕(Unit⊕Int))(h:BU c j k=some o):AWP (OkS Tryz.prog) yG (qL [0,1,7,8] [] (IQ c F_fZ0 C_fZ0) (qS (qX 0 [] [] (cy)) (qR aC (fun r=>.i r))) o) (IQ c F_fZ0 C_fZ0 k):=by
 have e:=ZA @IQ.eq_1 @cy.eq_1;unfold BU at h;simp only[ZC,IQ,yG];obtain⟨a,h⟩|⟨a,h⟩:=aq h
 ·obtain⟨m,d,h⟩:=af h;obtain⟨p,l,h⟩:=af h;have f:=ZA a (aV d);refine ZF f ?_;have f:=ZA f hC_fZ0.1;refine ZSG f (hf_fZ0 _ _ l) ?_;obtain⟨g,h⟩|⟨g,h⟩:=aq h
  ·cases h;exact ZL (ZA a (ZA (aV d) g)) (ZA @aC.eq_1 (ZA hC_fZ0.2 ((ck hC_fZ0))))
  ·cases h;exact ZL (ZA a (ZA (aV d) g)) (ZA e (ZA hC_fZ0.2 ((ck hC_fZ0))))
 ·cases h;exact ZL a (ZA e (ZA hC_fZ0.2 ((ck hC_fZ0))))
theorem w_gk(a:List Int)(c:Int->Option Bool){r:Int}(h:QS a c=some r)(F_fZ0:Nat)(C_fZ0:List AV)(hC_fZ0:mj C_fZ0)(hf_fZ0:∀(x0:Int)(r:Bool),c x0=some r->Ok Tryz.prog F_fZ0 ((.i x0)::C_fZ0) (.b r)):Ok Tryz.prog 217 [.lst .o 1 (a.map AV.i),.fn F_fZ0 C_fZ0] (.i r):=by
 refine aB be m217 rfl ?_;unfold QS at h;simp only[ZC,A217,aC,aL];obtain⟨d,g,h⟩:=af h;try refine ZF trivial ?_
 refine bq (o:=d) (bA dc (aI (w_bp a c F_fZ0 C_fZ0 hC_fZ0 hf_fZ0) g ?_)) (fun k hv=>?_) (fun l hv e τ hne hq=>?_)
 ·exact ZK (ZA @IQ.eq_1 (ZA @cy.eq_1 (ZA hC_fZ0.2 ((ck hC_fZ0)))))
 ·subst hv;simp only[] at h;simp only[ZC,cy,IB];cases h;exact ZL trivial (ZA @aC.eq_1 (ZA hC_fZ0.2 ((ck hC_fZ0))))
 ·subst hv;simp only[] at h;obtain⟨rfl,j⟩:=hq;cases h;exact j
theorem w_ez(a:List Int)(c:Int->Option Bool){r:Bool}(h:Ko a c=some r)(F_fZ0:Nat)(C_fZ0:List AV)(hC_fZ0:mj C_fZ0)(hf_fZ0:∀(x0:Int)(r:Bool),c x0=some r->Ok Tryz.prog F_fZ0 ((.i x0)::C_fZ0) (.b r)):Ok Tryz.prog 177 [.lst .o 1 (a.map AV.i),.fn F_fZ0 C_fZ0] (.b r):=by
 refine aB be m177 rfl ?_;unfold Ko at h;simp only[ZC,A177,aC,aL];obtain⟨g,d,h⟩:=af h;refine ZF trivial ?_;refine ZSG hC_fZ0.1 (w_gk _ _ d F_fZ0 C_fZ0 hC_fZ0 hf_fZ0) ?_;cases h;exact ZL trivial (ZA @aC.eq_1 (ZA hC_fZ0.2 ((ck hC_fZ0))))
theorem w_fa(a:ae)(d:List Int){r:Bool}(h:Mz a d=some r):Ok Tryz.prog 244 [.agg [.lst .o 1 (a.Nodes.map AV.z),.lst .o 4 (a.Fibers.map (ai .o))],.lst .o 1 (d.map AV.i)] (.b r):=by
 refine aB be m244 rfl ?_;unfold Mz at h;simp only[ZC,A244,aC,aL];obtain⟨l,g,h⟩:=af h;refine ZF trivial ?_;refine ZSG trivial (PQ _ g) ?_;obtain⟨c,h⟩|⟨c,h⟩:=aq h
 ·obtain⟨m,j,h⟩:=af h;refine ZF c ?_;refine ZSG c (w_ez _ _ j 263 [.bp .o (.agg [.lst .o 1 (a.Nodes.map AV.z),.lst .o 4 (a.Fibers.map (ai .o))]) 0] ⟨fun ρ k=>by simp only[VS1,VS2,VS3,VS4,VS5,VS6,VT1,VT2,cb,cd,decide_true,decide_false,List.nodup_nil,List.nodup_cons,fA,fw,fq,ne_eq,not_false_eq_true,Int.reduceEq,Int.reduceNe,true_and,false_and,Nat.reduceSub,Nat.reduceMul,↓reduceIte,reduceCtorEq,Nat.reduceEqDiff,Nat.reduceAdd,Nat.reduceLeDiff,Int.reduceLE],by simp[aO,AV.ments]⟩ (fun _ _ h=>w_gl _ _ h)) ?_;cases h;exact ZL c @aC.eq_1
 ·cases h;exact ZL c @aC.eq_1
theorem w_dh(b:List Int){r:List Int}(h:Cr b=some r):Ok Tryz.prog 80 [.lst .o 1 (b.map AV.i)] (.lst .u 1 (r.map AV.i)):=by
 refine aB be m80 rfl ?_;unfold Cr at h;simp only[ZC,A80,V10,aL];obtain⟨a,h⟩|⟨a,h⟩:=aq h
 ·refine ZF a ?_;refine And.intro ?_ ?_
  ·replace h:=Wl h;cases h;exact ZL a @V10.eq_1
  ·replace h:=VT h;obtain⟨g,c,h⟩:=af h;cases h;exact ZL (ZA a (aW c)) @V10.eq_1
 ·obtain⟨j,d,h⟩:=af h;cases h;exact ZL (ZA a (aW d)) @V10.eq_1
def Fn(b:Int)(c:Int)(d:List Int)(a:ae)(v:Int×Int×List ah×Int×ae):St:=⟨[(0,.i b),(1,.i c),(2,.lst .m 1 (d.map AV.i)),(7,.pt 1000000006 0 0),(25,.lst .o 4 (((a).Fibers).map (ai .o))),(26,.i (((a).Fibers).length:Int)),(27,.i v.1)],[(470000128,.arr 2 (v.2.2.1.map (ay .u))),(1000000001,.var (.i v.2.1)),(1000000002,.var (.sl 470000128 0 v.2.2.1.length)),(1000000004,.var (.i v.2.2.2.1)),(1000000005,.var (.agg [.lst .o 1 (((v.2.2.2.2).Nodes).map AV.z),.lst .o 4 (((v.2.2.2.2).Fibers).map (ai .o))])),(1000000006,.var (.fn 264 [.pt 1000000001 0 0,.pt 1000000002 0 0,.pt 1000000004 0 0,.pt 1000000005 0 0,.pt 1000000006 0 0]))]⟩
def Bf(v:Int×List ah×Int×ae):St:=⟨[],[(470000128,.arr 2 (v.2.1.map (ay .u))),(1000000001,.var (.i v.1)),(1000000002,.var (.sl 470000128 0 v.2.1.length)),(1000000004,.var (.i v.2.2.1)),(1000000005,.var (.agg [.lst .o 1 (((v.2.2.2).Nodes).map AV.z),.lst .o 4 (((v.2.2.2).Fibers).map (ai .o))])),(1000000006,.var (.fn 264 [.pt 1000000001 0 0,.pt 1000000002 0 0,.pt 1000000004 0 0,.pt 1000000005 0 0,.pt 1000000006 0 0]))]⟩
theorem w_ai(g:Int)(j:Int)(a:List Int)(p:Int)(k:List ah)(q:Int)(d:ae)(b1:Int->Int->List Int->Int->List ah->Int->ae->Option (Int×List ah×Int×ae))(l1:∀(g:Int)(j:Int)(a:List Int)(p:Int)(k:List ah)(q:Int)(d:ae){r:Int×List ah×Int×ae},b1 g j a p k q d=some r->OkM Tryz.prog 264 [.i g,.i j,.sl 1000000000 0 a.length,.pt 1000000001 0 0,.pt 1000000002 0 0,.pt 1000000004 0 0,.pt 1000000005 0 0,.pt 1000000006 0 0] [(1000000000,.arr 1 (a.map AV.i)),(1000000001,.var (.i p)),(1000000002,.var (.sl 1000000003 0 k.length)),(1000000003,.arr 2 (k.map (ay .u))),(1000000004,.var (.i q)),(1000000005,.var (.agg [.lst .o 1 (((d).Nodes).map AV.z),.lst .o 4 (((d).Fibers).map (ai .o))])),(1000000006,.var (.fn 264 [.pt 1000000001 0 0,.pt 1000000002 0 0,.pt 1000000004 0 0,.pt 1000000005 0 0,.pt 1000000006 0 0]))] (.tup []) ([(470000128,.arr 2 (r.2.1.map (ay .u))),(1000000001,.var (.i r.1)),(1000000002,.var (.sl 470000128 0 r.2.1.length)),(1000000004,.var (.i r.2.2.1)),(1000000005,.var (.agg [.lst .o 1 (((r.2.2.2).Nodes).map AV.z),.lst .o 4 (((r.2.2.2).Fibers).map (ai .o))])),(1000000006,.var (.fn 264 [.pt 1000000001 0 0,.pt 1000000002 0 0,.pt 1000000004 0 0,.pt 1000000005 0 0,.pt 1000000006 0 0]))]))(c:Int×Int×List ah×Int×ae)(o:(Int×Int×List ah×Int×ae)⊕(Int×List ah×Int×ae))(h:Hh g j a d b1 c=some o):AWP (OkS Tryz.prog) oS (qL [0,1,2,7,25,26,27] [470000128,1000000001,1000000002,1000000004,1000000005,1000000006] (Fn g j a d) (qX 0 [] [470000128,1000000001,1000000002,1000000004,1000000005,1000000006] (Bf)) o) (Fn g j a d c):=by
 have e:=ZA @Fn.eq_1 @Bf.eq_1;unfold Hh at h;simp only[ZC,Fn,oS];obtain⟨t,h⟩|⟨t,h⟩:=aq h
 ·obtain⟨b2,m1,h⟩:=af h;obtain⟨p1,q1,h⟩:=af h;have f:=ZA t (aV m1);refine ZF f ?_;refine ZSG f (SK _ _ q1) ?_;obtain⟨s1,t1,h⟩:=af h;try refine ZF f ?_
  refine aF (sh:=(fun v=>⟨[(0,.i g),(1,.i j),(2,.lst .m 1 (a.map AV.i)),(7,.pt 1000000006 0 0),(11,.i c.1),(13,.i p1),(25,.lst .o 4 (((d).Fibers).map (ai .o))),(26,.i (((d).Fibers).length:Int)),(27,.i c.1),(43,.b v)],[(470000128,.arr 2 (c.2.2.1.map (ay .u))),(1000000001,.var (.i c.2.1)),(1000000002,.var (.sl 470000128 0 c.2.2.1.length)),(1000000004,.var (.i c.2.2.2.1)),(1000000005,.var (.agg [.lst .o 1 (((c.2.2.2.2).Nodes).map AV.z),.lst .o 4 (((c.2.2.2.2).Fibers).map (ai .o))])),(1000000006,.var (.fn 264 [.pt 1000000001 0 0,.pt 1000000002 0 0,.pt 1000000004 0 0,.pt 1000000005 0 0,.pt 1000000006 0 0]))]⟩)) (s:=s1) ?_ ?_
  ·replace h:=t1;obtain⟨w,h⟩|⟨w,h⟩:=aq h
   ·obtain⟨c2,u1,h⟩:=af h;cases h;exact ZL (ZA f (ZA w (aW u1))) trivial
   ·cases h;exact ZL (ZA f w) trivial
  ·simp only[ZC,tN];obtain⟨x,h⟩|⟨x,h⟩:=aq h
   ·obtain⟨d2,v1,h⟩:=af h;have c1:(0:Int)<=(a.length:Int):=Int.natCast_nonneg _;obtain⟨y,l,h⟩:=aU h;have w1:Row.arr 1 [(.i c.1:AV)]=Row.arr 1 (y.map AV.i):=by rw[<-l];rfl
    have d1:y.length=1:=by rw[<-l];rfl
    obtain⟨g2,y1,h⟩:=af h;have g1:=aW y1;obtain⟨i1,a1,h⟩:=aU h;have z1:a.map AV.i++y.map AV.i=i1.map AV.i:=by rw[<-a1,List.map_append]
    have j1:a.length+1=i1.length:=by simp[<-l,<-a1]<;>omega
    rw[j1] at g1;have k1:(0:Nat)<1:=by decide
    obtain⟨i2,a2,h⟩:=af h;have f:=ZA f (ZA x (ZA (aW v1) (ZA c1 (ZA w1 (ZA d1 (ZA g1 (ZA z1 (ZA j1 k1))))))));refine ZF f ?_;refine ZWG f (l1 _ _ _ _ _ _ _ a2) [470000128,1000000001,1000000002,1000000004,1000000005,1000000006] [476000128] ?_;cases h;exact ZL f (ZA e (ZA l.symm (ZA a1.symm (ZA c1 (ZA d1 k1)))))
   ·cases h;exact ZL (ZA f x) e
 ·cases h;exact ZL t e
theorem VH(m:Int->Int->List Int->Int->List ah->Int->ae->Option (Int×List ah×Int×ae))(t:∀(g:Int)(j:Int)(b:List Int)(k:Int)(a:List ah)(d:Int)(c:ae){r:Int×List ah×Int×ae},m g j b k a d c=some r->OkM Tryz.prog 264 [.i g,.i j,.sl 1000000000 0 b.length,.pt 1000000001 0 0,.pt 1000000002 0 0,.pt 1000000004 0 0,.pt 1000000005 0 0,.pt 1000000006 0 0] [(1000000000,.arr 1 (b.map AV.i)),(1000000001,.var (.i k)),(1000000002,.var (.sl 1000000003 0 a.length)),(1000000003,.arr 2 (a.map (ay .u))),(1000000004,.var (.i d)),(1000000005,.var (.agg [.lst .o 1 (((c).Nodes).map AV.z),.lst .o 4 (((c).Fibers).map (ai .o))])),(1000000006,.var (.fn 264 [.pt 1000000001 0 0,.pt 1000000002 0 0,.pt 1000000004 0 0,.pt 1000000005 0 0,.pt 1000000006 0 0]))] (.tup []) ([(470000128,.arr 2 (r.2.1.map (ay .u))),(1000000001,.var (.i r.1)),(1000000002,.var (.sl 470000128 0 r.2.1.length)),(1000000004,.var (.i r.2.2.1)),(1000000005,.var (.agg [.lst .o 1 (((r.2.2.2).Nodes).map AV.z),.lst .o 4 (((r.2.2.2).Fibers).map (ai .o))])),(1000000006,.var (.fn 264 [.pt 1000000001 0 0,.pt 1000000002 0 0,.pt 1000000004 0 0,.pt 1000000005 0 0,.pt 1000000006 0 0]))]))(g:Int)(j:Int)(b:List Int)(k:Int)(a:List ah)(d:Int)(c:ae){r:Int×List ah×Int×ae}(h:GY m g j b k a d c=some r):OkM Tryz.prog 264 [.i g,.i j,.sl 1000000000 0 b.length,.pt 1000000001 0 0,.pt 1000000002 0 0,.pt 1000000004 0 0,.pt 1000000005 0 0,.pt 1000000006 0 0] [(1000000000,.arr 1 (b.map AV.i)),(1000000001,.var (.i k)),(1000000002,.var (.sl 1000000003 0 a.length)),(1000000003,.arr 2 (a.map (ay .u))),(1000000004,.var (.i d)),(1000000005,.var (.agg [.lst .o 1 (((c).Nodes).map AV.z),.lst .o 4 (((c).Fibers).map (ai .o))])),(1000000006,.var (.fn 264 [.pt 1000000001 0 0,.pt 1000000002 0 0,.pt 1000000004 0 0,.pt 1000000005 0 0,.pt 1000000006 0 0]))] (.tup []) ([(470000128,.arr 2 (r.2.1.map (ay .u))),(1000000001,.var (.i r.1)),(1000000002,.var (.sl 470000128 0 r.2.1.length)),(1000000004,.var (.i r.2.2.1)),(1000000005,.var (.agg [.lst .o 1 (((r.2.2.2).Nodes).map AV.z),.lst .o 4 (((r.2.2.2).Fibers).map (ai .o))])),(1000000006,.var (.fn 264 [.pt 1000000001 0 0,.pt 1000000002 0 0,.pt 1000000004 0 0,.pt 1000000005 0 0,.pt 1000000006 0 0]))]):=by
 refine aZ (lr:=[470000128,1000000001,1000000002,1000000004,1000000005,1000000006]) be Sv rfl rfl ?_;unfold GY at h;simp only[ZC,Lr,ce];obtain⟨l,h⟩|⟨l,h⟩:=aq h
 ·obtain⟨c1,d1,h⟩:=af h;refine ZF l ?_;refine ZUG l (w_dh _ d1) ?_;obtain⟨q,p,h⟩:=aU h;have g1:Row.arr 2 [(.agg [.i d,.lst .u 1 (c1.map AV.i)]:AV)]=Row.arr 2 (q.map (ay .u)):=by rw[<-p];rfl
  have v:q.length=1:=by rw[<-p];rfl
  obtain⟨k1,i1,h⟩:=af h;have w:=aW i1;obtain⟨x,s,h⟩:=aU h;have j1:a.map (ay .u)++q.map (ay .u)=x.map (ay .u):=by rw[<-s,List.map_append]
  have y:a.length+1=x.length:=by simp[<-p,<-s]<;>omega
  rw[y] at w;cases h;exact ZL (ZA l (ZA g1 (ZA v (ZA w (ZA j1 y))))) (ZA @ce.eq_1 (ZA p.symm (ZA s.symm v)))
 ·obtain⟨l1,a1,h⟩:=af h;try refine ZF l ?_
  first|refine dG (bi (aI (w_ai g j b k a d c m t) a1 ?_)) (fun τ b1=>?_)|refine eR (aI (w_ai g j b k a d c m t) a1 ?_) (fun τ b1=>?_)
  ·exact ZK (ZA @Fn.eq_1 @Bf.eq_1)
  ·cases h;refine jE b1 (by decide) ?_ rfl;exact ZK (ZA @ce.eq_1 @Bf.eq_1)
theorem w_cq:∀(n:Nat)(d:Int)(g:Int)(a:List Int)(j:Int)(b:List ah)(k:Int)(c:ae){r:Int×List ah×Int×ae}(_:BJ n d g a j b k c=some r),OkM Tryz.prog 264 [.i d,.i g,.sl 1000000000 0 a.length,.pt 1000000001 0 0,.pt 1000000002 0 0,.pt 1000000004 0 0,.pt 1000000005 0 0,.pt 1000000006 0 0] [(1000000000,.arr 1 (a.map AV.i)),(1000000001,.var (.i j)),(1000000002,.var (.sl 1000000003 0 b.length)),(1000000003,.arr 2 (b.map (ay .u))),(1000000004,.var (.i k)),(1000000005,.var (.agg [.lst .o 1 (((c).Nodes).map AV.z),.lst .o 4 (((c).Fibers).map (ai .o))])),(1000000006,.var (.fn 264 [.pt 1000000001 0 0,.pt 1000000002 0 0,.pt 1000000004 0 0,.pt 1000000005 0 0,.pt 1000000006 0 0]))] ((fun(r:Int×List ah×Int×ae)=>.tup []) r) ((fun(r:Int×List ah×Int×ae)=>[(470000128,.arr 2 (r.2.1.map (ay .u))),(1000000001,.var (.i r.1)),(1000000002,.var (.sl 470000128 0 r.2.1.length)),(1000000004,.var (.i r.2.2.1)),(1000000005,.var (.agg [.lst .o 1 (((r.2.2.2).Nodes).map AV.z),.lst .o 4 (((r.2.2.2).Fibers).map (ai .o))])),(1000000006,.var (.fn 264 [.pt 1000000001 0 0,.pt 1000000002 0 0,.pt 1000000004 0 0,.pt 1000000005 0 0,.pt 1000000006 0 0]))]) r)
 |0,d,g,a,j,b,k,c,_,h=>by cases h
 |n+1,d,g,a,j,b,k,c,_,h=>VH (BJ n) (w_cq n) d g a j b k c h
def Mi(b:Int)(c:Int)(d:List Int)(a:ae)(v:Int×Int×List ah×Int×ae):St:=⟨[(0,.i b),(1,.i c),(2,.lst .u 1 (d.map AV.i)),(7,.pt 1000000005 0 0),(25,.lst .o 4 (((a).Fibers).map (ai .o))),(26,.i (((a).Fibers).length:Int)),(27,.i v.1)],[(470000064,.arr 2 (v.2.2.1.map (ay .u))),(1000000000,.var (.i v.2.1)),(1000000001,.var (.sl 470000064 0 v.2.2.1.length)),(1000000003,.var (.i v.2.2.2.1)),(1000000004,.var (.agg [.lst .o 1 (((v.2.2.2.2).Nodes).map AV.z),.lst .o 4 (((v.2.2.2.2).Fibers).map (ai .o))])),(1000000005,.var (.fn 264 [.pt 1000000000 0 0,.pt 1000000001 0 0,.pt 1000000003 0 0,.pt 1000000004 0 0,.pt 1000000005 0 0]))]⟩
def zn(v:Int×List ah×Int×ae):St:=⟨[],[(470000064,.arr 2 (v.2.1.map (ay .u))),(1000000000,.var (.i v.1)),(1000000001,.var (.sl 470000064 0 v.2.1.length)),(1000000003,.var (.i v.2.2.1)),(1000000004,.var (.agg [.lst .o 1 (((v.2.2.2).Nodes).map AV.z),.lst .o 4 (((v.2.2.2).Fibers).map (ai .o))])),(1000000005,.var (.fn 264 [.pt 1000000000 0 0,.pt 1000000001 0 0,.pt 1000000003 0 0,.pt 1000000004 0 0,.pt 1000000005 0 0]))]⟩
theorem w_bb(g:Int)(j:Int)(c:List Int)(d:ae)(a:Int×Int×List ah×Int×ae)(o:(Int×Int×List ah×Int×ae)⊕(Int×List ah×Int×ae))(h:SZ g j c d a=some o):AWP (OkS Tryz.prog) pA (qL [0,1,2,7,25,26,27] [470000064,1000000000,1000000001,1000000003,1000000004,1000000005] (Mi g j c d) (qX 0 [] [470000064,1000000000,1000000001,1000000003,1000000004,1000000005] (zn)) o) (Mi g j c d a):=by
 have e:=ZA @Mi.eq_1 @zn.eq_1;unfold SZ at h;simp only[ZC,Mi,pA];obtain⟨l,h⟩|⟨l,h⟩:=aq h
 ·obtain⟨u1,d1,h⟩:=af h;obtain⟨g1,i1,h⟩:=af h;have f:=ZA l (aV d1);refine ZF f ?_;refine ZSG f (SK _ _ i1) ?_;obtain⟨j1,k1,h⟩:=af h;try refine ZF f ?_
  refine aF (sh:=(fun v=>⟨[(0,.i g),(1,.i j),(2,.lst .u 1 (c.map AV.i)),(7,.pt 1000000005 0 0),(11,.i a.1),(13,.i g1),(25,.lst .o 4 (((d).Fibers).map (ai .o))),(26,.i (((d).Fibers).length:Int)),(27,.i a.1),(43,.b v)],[(470000064,.arr 2 (a.2.2.1.map (ay .u))),(1000000000,.var (.i a.2.1)),(1000000001,.var (.sl 470000064 0 a.2.2.1.length)),(1000000003,.var (.i a.2.2.2.1)),(1000000004,.var (.agg [.lst .o 1 (((a.2.2.2.2).Nodes).map AV.z),.lst .o 4 (((a.2.2.2.2).Fibers).map (ai .o))])),(1000000005,.var (.fn 264 [.pt 1000000000 0 0,.pt 1000000001 0 0,.pt 1000000003 0 0,.pt 1000000004 0 0,.pt 1000000005 0 0]))]⟩)) (s:=j1) ?_ ?_
  ·replace h:=k1;obtain⟨m,h⟩|⟨m,h⟩:=aq h
   ·obtain⟨v1,l1,h⟩:=af h;cases h;exact ZL (ZA f (ZA m (aW l1))) trivial
   ·cases h;exact ZL (ZA f m) trivial
  ·simp only[ZC,uk];obtain⟨p,h⟩|⟨p,h⟩:=aq h
   ·obtain⟨w1,m1,h⟩:=af h;have w:(0:Int)<=(c.length:Int):=Int.natCast_nonneg _;obtain⟨q,k,h⟩:=aU h;have p1:Row.arr 1 [(.i a.1:AV)]=Row.arr 1 (q.map AV.i):=by rw[<-k];rfl
    have x:q.length=1:=by rw[<-k];rfl
    obtain⟨y1,q1,h⟩:=af h;have y:=aW q1;obtain⟨a1,t,h⟩:=aU h;have s1:c.map AV.i++q.map AV.i=a1.map AV.i:=by rw[<-t,List.map_append]
    have b1:c.length+1=a1.length:=by simp[<-k,<-t]<;>omega
    rw[b1] at y;have c1:(0:Nat)<1:=by decide
    obtain⟨z1,t1,h⟩:=af h;have f:=ZA f (ZA p (ZA (aW m1) (ZA w (ZA p1 (ZA x (ZA y (ZA s1 (ZA b1 c1))))))));refine ZF f ?_;refine ZWG f (w_cq N0 _ _ _ _ _ _ _ t1) [470000128,1000000001,1000000002,1000000004,1000000005,1000000006] [476000128] ?_;cases h;exact ZL f (ZA e (ZA k.symm (ZA t.symm (ZA w (ZA x c1)))))
   ·cases h;exact ZL (ZA f p) e
 ·cases h;exact ZL l e
theorem w_gj(d:Int)(g:Int)(j:List Int)(q:Int)(a:List ah)(l:Int)(b:ae){r:Int×List ah×Int×ae}(h:Qe d g j q a l b=some r):OkM Tryz.prog 264 [.i d,.i g,.lst .u 1 (j.map AV.i),.pt 1000000000 0 0,.pt 1000000001 0 0,.pt 1000000003 0 0,.pt 1000000004 0 0,.pt 1000000005 0 0] [(1000000000,.var (.i q)),(1000000001,.var (.sl 1000000002 0 a.length)),(1000000002,.arr 2 (a.map (ay .u))),(1000000003,.var (.i l)),(1000000004,.var (.agg [.lst .o 1 (((b).Nodes).map AV.z),.lst .o 4 (((b).Fibers).map (ai .o))])),(1000000005,.var (.fn 264 [.pt 1000000000 0 0,.pt 1000000001 0 0,.pt 1000000003 0 0,.pt 1000000004 0 0,.pt 1000000005 0 0]))] (.tup []) ([(470000064,.arr 2 (r.2.1.map (ay .u))),(1000000000,.var (.i r.1)),(1000000001,.var (.sl 470000064 0 r.2.1.length)),(1000000003,.var (.i r.2.2.1)),(1000000004,.var (.agg [.lst .o 1 (((r.2.2.2).Nodes).map AV.z),.lst .o 4 (((r.2.2.2).Fibers).map (ai .o))])),(1000000005,.var (.fn 264 [.pt 1000000000 0 0,.pt 1000000001 0 0,.pt 1000000003 0 0,.pt 1000000004 0 0,.pt 1000000005 0 0]))]):=by
 refine aZ (lr:=[470000064,1000000000,1000000001,1000000003,1000000004,1000000005]) be TM rfl rfl ?_;unfold Qe at h;simp only[ZC,Jz,ce];obtain⟨c,h⟩|⟨c,h⟩:=aq h
 ·obtain⟨a1,b1,h⟩:=af h;refine ZF c ?_;refine ZUG c (w_dh _ b1) ?_;obtain⟨m,k,h⟩:=aU h;have c1:Row.arr 2 [(.agg [.i l,.lst .u 1 (a1.map AV.i)]:AV)]=Row.arr 2 (m.map (ay .u)):=by rw[<-k];rfl
  have s:m.length=1:=by rw[<-k];rfl
  obtain⟨i1,d1,h⟩:=af h;have t:=aW d1;obtain⟨v,p,h⟩:=aU h;have g1:a.map (ay .u)++m.map (ay .u)=v.map (ay .u):=by rw[<-p,List.map_append]
  have w:a.length+1=v.length:=by simp[<-k,<-p]<;>omega
  rw[w] at t;cases h;exact ZL (ZA c (ZA c1 (ZA s (ZA t (ZA g1 w))))) (ZA @ce.eq_1 (ZA k.symm (ZA p.symm s)))
 ·obtain⟨j1,x,h⟩:=af h;try refine ZF c ?_
  first|refine dG (bi (aI (w_bb d g j b) x ?_)) (fun τ y=>?_)|refine eR (aI (w_bb d g j b) x ?_) (fun τ y=>?_)
  ·exact ZK (ZA @Mi.eq_1 @zn.eq_1)
  ·cases h;refine jE y (by decide) ?_ rfl;exact ZK (ZA @ce.eq_1 @zn.eq_1)
def IP(a:ae)(b:ah)(v:Int×Int):St:=⟨[(2,.pt 2 0 0),(5,.i v.1),(9,.lst .o 1 (b.Fibers.map AV.i)),(10,.i (b.Fibers.length:Int)),(11,.i v.2)],[(2,.var (.agg [.lst .o 1 (a.Nodes.map AV.z),.lst .o 4 (a.Fibers.map (ai .o))]))]⟩
theorem w_cx(a:ae)(b:ah)(d:Int×Int)(o:(Int×Int)⊕Int)(h:TC a b d=some o):AWP (OkS Tryz.prog) yM (qL [2,5,9,10,11] [2] (IP a b) (qX 0 [5] [] (kt)) o) (IP a b d):=by
 have e:=ZA @IP.eq_1 @kt.eq_1;unfold TC at h;simp only[ZC,IP,yM];obtain⟨c,h⟩|⟨c,h⟩:=aq h
 ·obtain⟨j,g,h⟩:=af h;obtain⟨k,i,h⟩:=af h;cases h;exact ZL (ZA c (ZA (aV g) (aV i))) e
 ·cases h;exact ZL c e
theorem ST(a:ae)(b:ah){r:Int}(h:EK a b=some r):Ok Tryz.prog 223 [.agg [.lst .o 1 (a.Nodes.map AV.z),.lst .o 4 (a.Fibers.map (ai .o))],.agg [.i b.Start,.lst .o 1 (b.Fibers.map AV.i)]] (.i r):=by
 refine aB be m223 rfl ?_;unfold EK at h;simp only[ZC,A223,aC,aL];obtain⟨d,c,h⟩:=af h;try refine ZF trivial ?_
 refine aF (bi (aI (w_cx a b) c ?_)) ?_
 ·exact ZK (ZA @IP.eq_1 @kt.eq_1)
 ·simp only[ZC,kt,Hq];cases h;exact ZL trivial @aC.eq_1
def S_u(s1Z0:List Int)(s2Z0:List Int)(v:Int):St:=⟨[(0,.lst .o 1 (s1Z0.map AV.i)),(1,.lst .o 1 (s2Z0.map AV.i)),(9,.lst .o 1 (s1Z0.map AV.i)),(10,.i (s1Z0.length:Int)),(11,.i v)],[]⟩
def Ic(s1Z0:List Int)(s2Z0:List Int)(v:Unit):St:=⟨[(0,.lst .o 1 (s1Z0.map AV.i)),(1,.lst .o 1 (s2Z0.map AV.i))],[]⟩
theorem w_u(s1Z0:List Int)(s2Z0:List Int)(d:Int)(o:Int⊕(Unit⊕Int))(h:M_u s1Z0 s2Z0 d=some o):AWP (OkS Tryz.prog) yd (qL [0,1,9,10,11] [] (S_u s1Z0 s2Z0) (qS (qX 0 [0,1] [] (Ic s1Z0 s2Z0)) (qR aC (fun r=>.i r))) o) (S_u s1Z0 s2Z0 d):=by
 unfold M_u at h;simp only[ZC,S_u,yd];obtain⟨a,h⟩|⟨a,h⟩:=aq h
 ·obtain⟨l,g,h⟩:=af h;obtain⟨b,h⟩|⟨b,h⟩:=aq h
  ·cases h;exact ZL (ZA a (ZA (aV g) b)) @aC.eq_1
  ·obtain⟨m,j,h⟩:=af h;obtain⟨p,k,h⟩:=af h;have f:=ZA a (ZA (aV g) (ZA b (aV j)));refine ZF f ?_;refine ZSG f (w_m _ _ k) ?_;obtain⟨c,h⟩|⟨c,h⟩:=aq h
   ·cases h;exact ZL (ZA f c) @aC.eq_1
   ·cases h;exact ZL (ZA f c) (ZA @S_u.eq_1 @Ic.eq_1)
 ·cases h;exact ZL a (ZA @S_u.eq_1 @Ic.eq_1)
theorem w_gb(s1Z0:List Int)(s2Z0:List Int){r:Int}(h:MD s1Z0 s2Z0=some r):Ok Tryz.prog 225 [.lst .o 1 (s1Z0.map AV.i),.lst .o 1 (s2Z0.map AV.i)] (.i r):=by
 refine aB be m225 rfl ?_;unfold MD at h;simp only[ZC,A225,aC,aL];obtain⟨b,c,h⟩:=af h;try refine ZF trivial ?_
 refine bq (o:=b) (bA dc (aI (w_u s1Z0 s2Z0) c ?_)) (fun g hv=>?_) (fun j hv e τ hne hq=>?_)
 ·exact ZK (ZA @S_u.eq_1 @Ic.eq_1)
 ·subst hv;simp only[] at h;simp only[ZC,Ic,GH];obtain⟨a,h⟩|⟨a,h⟩:=aq h
  ·cases h;exact ZL a @aC.eq_1
  ·cases h;exact ZL a @aC.eq_1
 ·subst hv;simp only[] at h;obtain⟨rfl,d⟩:=hq;cases h;exact d
theorem TQ(c:ae)(d:ah)(g:ah){r:Int}(h:tt c d g=some r):Ok Tryz.prog 190 [.agg [.lst .o 1 (c.Nodes.map AV.z),.lst .o 4 (c.Fibers.map (ai .o))],.agg [.i d.Start,.lst .o 1 (d.Fibers.map AV.i)],.agg [.i g.Start,.lst .o 1 (g.Fibers.map AV.i)]] (.i r):=by
 refine aB be m190 rfl ?_;unfold tt at h;simp only[ZC,A190,cx,aL];obtain⟨b1,k,h⟩:=af h;refine ZF trivial ?_;refine ZSG trivial (ST _ _ k) ?_;obtain⟨c1,l,h⟩:=af h;refine ZF trivial ?_;refine ZSG trivial (ST _ _ l) ?_;obtain⟨m,p,h⟩:=af h;refine ZF trivial ?_;refine ZSG trivial (w_m _ _ p) ?_;obtain⟨q,s,h⟩:=af h;refine ZF trivial ?_;refine ZSG trivial (w_m _ _ s) ?_;obtain⟨t,u,h⟩:=af h;refine ZF trivial ?_;refine ZSG trivial (w_gb _ _ u) ?_;obtain⟨v,w,h⟩:=af h;refine ZF trivial ?_;refine ZSG trivial (w_m _ _ w) ?_;obtain⟨a,b,h⟩:=aU h;have x:Row.arr 1 [(.i m:AV),(.i q:AV),(.i t:AV),(.i v:AV)]=Row.arr 1 (a.map AV.i):=by rw[<-b];rfl
 have j:a.length=4:=by rw[<-b];rfl
 have y:sub (a.map AV.i) 0 4=a.map AV.i:=lI _ (by simp[<-b]);obtain⟨d1,a1,h⟩:=af h;have f:=ZA x (ZA j y);refine ZF f ?_;refine ZSG f (QN _ a1) ?_;cases h;exact ZL f (ZA @cx.eq_1 (ZA b.symm j))
theorem w_di(a:ah)(b:ah)(p2Z0:ae){r:Int}(h:xS a b p2Z0=some r):Ok Tryz.prog 266 [.agg [.i a.Start,.lst .o 1 (a.Fibers.map AV.i)],.agg [.i b.Start,.lst .o 1 (b.Fibers.map AV.i)],.bp .o (.agg [.lst .o 1 (p2Z0.Nodes.map AV.z),.lst .o 4 (p2Z0.Fibers.map (ai .o))]) 0] (.i r):=by
 refine aB be m266 rfl ?_;unfold xS at h;simp only[ZC,A266,UE,aL];obtain⟨d,c,h⟩:=af h;refine ZF trivial ?_;refine ZSG trivial (TQ _ _ _ c) ?_;cases h;exact ZL trivial @UE.eq_1
theorem w_ey(b:ae)(g:Int)(j:Int){r:List ah}(h:Gd b g j=some r):Ok Tryz.prog 245 [.agg [.lst .o 1 (b.Nodes.map AV.z),.lst .o 4 (b.Fibers.map (ai .o))],.i g,.i j] (.lst .u 2 (r.map (ay .u))):=by
 refine aB be m245 rfl ?_;unfold Gd at h;simp only[ZC,A245,cx,aL];obtain⟨a,m,h⟩:=af h;try refine ZF trivial ?_
 refine aF (sh:=(fun v=>⟨[(3,.pt 3 0 0),(7,.pt 7 0 0)],[(3,.var (.agg [.lst .o 1 (((v.1).Nodes).map AV.z),.lst .o 4 (((v.1).Fibers).map (ai .o))])),(7,.var (.sl 500000448 0 v.2.length)),(500000448,.arr 2 (v.2.map (ay .u)))]⟩)) (s:=a) ?_ ?_
 ·replace h:=m;obtain⟨c,h⟩|⟨c,h⟩:=aq h
  ·obtain⟨w,p,h⟩:=af h;obtain⟨x,q,h⟩:=af h;have f:=ZA c (aW p);refine ZF f ?_;refine ZWG f (w_gj _ _ _ _ _ _ _ q) [470000064,1000000000,1000000001,1000000003,1000000004,1000000005] [471900064] ?_;cases h;exact ZL f trivial
  ·cases h;exact ZL c trivial
 ·simp only[ZC,FP];obtain⟨d,k,h⟩:=af h;have l:d.length=a.2.length:=kh k;refine ZF trivial ?_;refine wG (by simp only[VS1,VS2,VS3,VS4,VS5,VS6,VT1,VT2,cb,cd,decide_true,decide_false,List.nodup_nil,List.nodup_cons,fA,fw,fq,ne_eq,not_false_eq_true,Int.reduceEq,Int.reduceNe,true_and,false_and,Nat.reduceSub,Nat.reduceMul,↓reduceIte,reduceCtorEq,Nat.reduceEqDiff,Nat.reduceAdd,Nat.reduceLeDiff,Int.reduceLE];exact(IV NY (ay .u) (pD .u) (xs:=a.2) (cmp:=(fun x0 x1=>xS x0 x1 a.1)) (C:=[.bp .o (.agg [.lst .o 1 (a.1.Nodes.map AV.z),.lst .o 4 (a.1.Fibers.map (ai .o))]) 0]) (by simp[List.length_nil]) (by simp only[VS1,VS2,VS3,VS4,VS5,VS6,VT1,VT2,cb,cd,decide_true,decide_false,List.nodup_nil,List.nodup_cons,fA,fw,fq,ne_eq,not_false_eq_true,Int.reduceEq,Int.reduceNe,true_and,false_and,Nat.reduceSub,Nat.reduceMul,↓reduceIte,reduceCtorEq,Nat.reduceEqDiff,Nat.reduceAdd,Nat.reduceLeDiff,Int.reduceLE,List.map_cons,List.map_nil]) rfl (by simp[Wf,VS1,VS2,VS3,VS4,VS5,VS6,VT1,VT2]) (by simp[VS1,VS2,VS3,VS4,VS5,VS6,VT1,VT2]) ((Ux m266)) (fun _ _ _ hq=>by simp only[fY,VS1,VS2,VS3,VS4,VS5,VS6,VT1,VT2,cb,cd,decide_true,decide_false,List.nodup_nil,List.nodup_cons,fA,fw,fq,ne_eq,not_false_eq_true,Int.reduceEq,Int.reduceNe,true_and,false_and,Nat.reduceSub,Nat.reduceMul,↓reduceIte,reduceCtorEq,Nat.reduceEqDiff,Nat.reduceAdd,Nat.reduceLeDiff,Int.reduceLE];exact w_di _ _ _ hq) k)) (by simp[VS1,VS2,VS3,VS4,VS5,VS6,VT1,VT2]) (by first|exact Sc [1000000000,1000000001] rfl (by decide+kernel)|simp[VS1,VS2,VS3,VS4,VS5,VS6,VT1,VT2]) ?_;refine ZG ?_;have t:sub (d.map (ay .u)) 0 a.2.length=d.map (ay .u):=lI _ (by simp[l]);cases h;exact ZL t (ZA @cx.eq_1 l)
theorem w_ej(c:ae)(g:Int)(j:Int){r:List ah×Bool}(h:Ez c g j=some r):Ok Tryz.prog 221 [.agg [.lst .o 1 (c.Nodes.map AV.z),.lst .o 4 (c.Fibers.map (ai .o))],.i g,.i j] (.tup [.lst .u 2 (r.1.map (ay .u)),.b r.2]):=by
 refine aB be m221 rfl ?_;unfold Ez at h;simp only[ZC,A221,eB,aL];obtain⟨q,t,h⟩:=af h;try refine ZF trivial ?_
 refine aF (sh:=(fun v=>⟨[(1,.i g),(2,.i j),(3,.pt 3 0 0),(19,.b v)],[(3,.var (.agg [.lst .o 1 (c.Nodes.map AV.z),.lst .o 4 (c.Fibers.map (ai .o))]))]⟩)) (s:=q) ?_ ?_
 ·replace h:=t;obtain⟨k,d,h⟩:=aU h;have w:Row.arr 1 [(.i g:AV),(.i j:AV)]=Row.arr 1 (k.map AV.i):=by rw[<-d];rfl
  have l:k.length=2:=by rw[<-d];rfl
  have x:sub (k.map AV.i) 0 2=k.map AV.i:=lI _ (by simp[<-d]);obtain⟨b1,y,h⟩:=af h;have f:=ZA w (ZA l x);refine ZF f ?_;refine ZSG f (w_fa _ _ y) ?_;obtain⟨m,h⟩|⟨m,h⟩:=aq h
  ·cases h;exact ZL (ZA f m) (ZA d.symm l)
  ·cases h;exact ZL (ZA f m) (ZA d.symm l)
 ·simp only[ZC,Mn];obtain⟨a,h⟩|⟨a,h⟩:=aq h
  ·cases h;exact ZL a @eB.eq_1
  ·obtain⟨c1,a1,h⟩:=af h;refine ZF a ?_;refine ZUG a (w_ey _ _ _ a1) ?_;obtain⟨p,h⟩|⟨p,h⟩:=aq h
   ·cases h;exact ZL (ZA a p) @eB.eq_1
   ·cases h;exact ZL (ZA a p) @eB.eq_1
def FA(a:List az)(b:Int)(v:Int):St:=⟨[(0,.lst .o 2 (a.map (au .o))),(1,.i b),(6,.i v)],[]⟩
theorem w_cn(c:List az)(d:Int)(j:Int)(o:Int⊕(Unit⊕(Int×Bool)))(h:IW c d j=some o):AWP (OkS Tryz.prog) xd (qL [0,1,6] [] (FA c d) (qS (qX 0 [] [] (cy)) (qR gf (fun r=>.tup [.i r.1,.b r.2]))) o) (FA c d j):=by
 have e:=ZA @FA.eq_1 @cy.eq_1;unfold IW at h;simp only[ZC,FA,xd];obtain⟨a,h⟩|⟨a,h⟩:=aq h
 ·obtain⟨l,k,h⟩:=af h;obtain⟨g,h⟩|⟨g,h⟩:=aq h
  ·cases h;exact ZL (ZA a (ZA (aV k) g)) @gf.eq_1
  ·cases h;exact ZL (ZA a (ZA (aV k) g)) e
 ·cases h;exact ZL a e
theorem w_gc(c:List az)(d:Int){r:Int×Bool}(h:JR c d=some r):Ok Tryz.prog 246 [.lst .o 2 (c.map (au .o)),.i d] (.tup [.i r.1,.b r.2]):=by
 refine aB be m246 rfl ?_;unfold JR at h;simp only[ZC,A246,gf,aL];obtain⟨j,k,h⟩:=af h;try refine ZF trivial ?_
 refine aF (sh:=(fun v=>⟨[(0,.lst .o 2 (c.map (au .o))),(1,.i d),(14,.b v)],[]⟩)) (s:=j) ?_ ?_
 ·replace h:=k;obtain⟨u,l,h⟩:=af h;refine ZF trivial ?_;refine ZSG trivial (w_ef _ l) ?_;obtain⟨a,h⟩|⟨a,h⟩:=aq h
  ·cases h;exact ZL a trivial
  ·obtain⟨w,m,h⟩:=af h;refine ZF a ?_;refine ZSG a (w_d _ _ _ m) ?_;cases h;exact ZL a trivial
 ·simp only[ZC,LM];obtain⟨g,h⟩|⟨g,h⟩:=aq h
  ·cases h;exact ZL g @gf.eq_1
  ·obtain⟨p,q,h⟩:=af h;try refine ZF g ?_
   refine bq (o:=p) (bA dc (aI (w_cn c d) q ?_)) (fun x hv=>?_) (fun y hv e τ hne hq=>?_)
   ·exact ZK (ZA @FA.eq_1 @cy.eq_1)
   ·subst hv;simp only[] at h;simp only[ZC,cy,FY];cases h;exact ZL g @gf.eq_1
   ·subst hv;simp only[] at h;obtain⟨rfl,t⟩:=hq;cases h;exact t
theorem w_gd(d:List az)(k:Int)(g:Int){r:Int×Bool}(h:Fr d k g=some r):Ok Tryz.prog 222 [.lst .o 2 (d.map (au .o)),.i k,.i g] (.tup [.i r.1,.b r.2]):=by
 refine aB be m222 rfl ?_;unfold Fr at h;simp only[ZC,A222,eB,aL];obtain⟨p,q,h⟩:=af h;refine ZF trivial ?_;refine ZUG trivial (w_gc _ _ q) ?_;obtain⟨t,u,h⟩:=af h;try refine ZF trivial ?_
 refine aF (sh:=(fun v=>⟨[(0,.lst .o 2 (d.map (au .o))),(2,.i g),(8,.i p.1),(23,.b v)],[]⟩)) (s:=t) ?_ ?_
 ·replace h:=u;obtain⟨a,h⟩|⟨a,h⟩:=aq h
  ·cases h;exact ZL a trivial
  ·obtain⟨x,w,h⟩:=af h;refine ZF a ?_;refine ZSG a (w_d _ _ _ w) ?_;cases h;exact ZL a trivial
 ·simp only[ZC,Kb];obtain⟨c,h⟩|⟨c,h⟩:=aq h
  ·cases h;exact ZL c @eB.eq_1
  ·obtain⟨y,l,h⟩:=af h;obtain⟨z,m,h⟩:=af h;obtain⟨j,h⟩|⟨j,h⟩:=aq h
   ·cases h;exact ZL (ZA c (ZA (aV l) (ZA (aW m) j))) @eB.eq_1
   ·cases h;exact ZL (ZA c (ZA (aV l) (ZA (aW m) j))) @eB.eq_1
theorem w_l(a:aD){r:Int}(h:M_l a=some r):Ok Tryz.prog 187 [.agg [.i a.route.Start,.lst .o 1 (a.route.Fibers.map AV.i),.i a.count]] (.i r):=by
 refine aB be m187 rfl ?_;unfold M_l at h;simp only[ZC,A187,V10,aL];cases h;exact ZL trivial @V10.eq_1
def HD(a:List Int)(b:List Int)(v:Int):St:=⟨[(0,.lst .o 1 (a.map AV.i)),(1,.lst .o 1 (b.map AV.i)),(5,.i v)],[]⟩
theorem w_cb(c:List Int)(d:List Int)(i:Int)(o:Int⊕(Unit⊕Bool))(h:CR c d i=some o):AWP (OkS Tryz.prog) Fp (qL [0,1,5] [] (HD c d) (qS (qX 0 [] [] (cy)) (qR aC (fun r=>.b r))) o) (HD c d i):=by
 have e:=ZA @HD.eq_1 @cy.eq_1;unfold CR at h;simp only[ZC,HD,Fp];obtain⟨a,h⟩|⟨a,h⟩:=aq h
 ·obtain⟨l,j,h⟩:=af h;obtain⟨m,k,h⟩:=af h;obtain⟨g,h⟩|⟨g,h⟩:=aq h
  ·cases h;exact ZL (ZA a (ZA (aV j) (ZA (aV k) g))) @aC.eq_1
  ·cases h;exact ZL (ZA a (ZA (aV j) (ZA (aV k) g))) e
 ·cases h;exact ZL a e
theorem w_ge(c:List Int)(d:List Int){r:Bool}(h:Jx c d=some r):Ok Tryz.prog 14 [.lst .o 1 (c.map AV.i),.lst .o 1 (d.map AV.i)] (.b r):=by
 refine aB be m14 rfl ?_;unfold Jx at h;simp only[ZC,A14,aC,aL];obtain⟨a,h⟩|⟨a,h⟩:=aq h
 ·cases h;exact ZL a @aC.eq_1
 ·obtain⟨g,j,h⟩:=af h;try refine ZF a ?_
  refine bq (o:=g) (bA dc (aI (w_cb c d) j ?_)) (fun l hv=>?_) (fun m hv e τ hne hq=>?_)
  ·exact ZK (ZA @HD.eq_1 @cy.eq_1)
  ·subst hv;simp only[] at h;simp only[ZC,cy,Rz];cases h;exact ZL a @aC.eq_1
  ·subst hv;simp only[] at h;obtain⟨rfl,k⟩:=hq;cases h;exact k
theorem w_eg(c:ah)(d:ah){r:Bool}(h:EJ c d=some r):Ok Tryz.prog 61 [.agg [.i c.Start,.lst .o 1 (c.Fibers.map AV.i)],.agg [.i d.Start,.lst .o 1 (d.Fibers.map AV.i)]] (.b r):=by
 refine aB be m61 rfl ?_;unfold EJ at h;simp only[ZC,A61,aC,aL];obtain⟨a,h⟩|⟨a,h⟩:=aq h
 ·obtain⟨j,g,h⟩:=af h;refine ZF a ?_;refine ZSG a (w_ge _ _ g) ?_;cases h;exact ZL a @aC.eq_1
 ·cases h;exact ZL a @aC.eq_1
theorem w_gs(c:ae)(d:ah){r:List Int×Bool}(h:Ob c d=some r):Ok Tryz.prog 229 [.agg [.lst .o 1 (c.Nodes.map AV.z),.lst .o 4 (c.Fibers.map (ai .o))],.agg [.i d.Start,.lst .o 1 (d.Fibers.map AV.i)]] (.tup [.lst .u 1 (r.1.map AV.i),.b r.2]):=by
 refine aB be m229 rfl ?_;unfold Ob at h;simp only[ZC,A229,gf,aL];obtain⟨k,g,h⟩:=af h;refine ZF trivial ?_;refine ZSG trivial (PQ _ g) ?_;obtain⟨a,h⟩|⟨a,h⟩:=aq h
 ·cases h;exact ZL a @gf.eq_1
 ·obtain⟨l,j,h⟩:=af h;refine ZF a ?_;refine ZUG a (Vy _ _ j) ?_;cases h;exact ZL a @gf.eq_1
theorem w_eh(a:ae)(c:ah){r:Bool}(h:Dr a c=some r):Ok Tryz.prog 201 [.agg [.lst .o 1 (a.Nodes.map AV.z),.lst .o 4 (a.Fibers.map (ai .o))],.agg [.i c.Start,.lst .o 1 (c.Fibers.map AV.i)]] (.b r):=by
 refine aB be m201 rfl ?_;unfold Dr at h;simp only[ZC,A201,aC,aL];obtain⟨g,d,h⟩:=af h;refine ZF trivial ?_;refine ZUG trivial (w_gs _ _ d) ?_;cases h;exact ZL trivial @aC.eq_1
theorem w_gt(c:ae)(d:ah)(g:ah){r:Bool}(h:Qx c d g=some r):Ok Tryz.prog 135 [.agg [.lst .o 1 (c.Nodes.map AV.z),.lst .o 4 (c.Fibers.map (ai .o))],.agg [.i d.Start,.lst .o 1 (d.Fibers.map AV.i)],.agg [.i g.Start,.lst .o 1 (g.Fibers.map AV.i)]] (.b r):=by
 refine aB be m135 rfl ?_;unfold Qx at h;simp only[ZC,A135,cx,aL];obtain⟨l,j,h⟩:=af h;refine ZF trivial ?_;refine ZSG trivial (w_eh _ _ j) ?_;obtain⟨a,h⟩|⟨a,h⟩:=aq h
 ·obtain⟨m,k,h⟩:=af h;refine ZF a ?_;refine ZSG a (w_eh _ _ k) ?_;cases h;exact ZL a @cx.eq_1
 ·cases h;exact ZL a @cx.eq_1
theorem w_gu(c:ae)(d:ah)(g:ah){r:Bool×Bool}(h:Om c d g=some r):Ok Tryz.prog 62 [.agg [.lst .o 1 (c.Nodes.map AV.z),.lst .o 4 (c.Fibers.map (ai .o))],.agg [.i d.Start,.lst .o 1 (d.Fibers.map AV.i)],.agg [.i g.Start,.lst .o 1 (g.Fibers.map AV.i)]] (.tup [.b r.1,.b r.2]):=by
 refine aB be m62 rfl ?_;unfold Om at h;simp only[ZC,A62,eB,aL];obtain⟨l,j,h⟩:=af h;refine ZF trivial ?_;refine ZSG trivial (w_gt _ _ _ j) ?_;obtain⟨a,h⟩|⟨a,h⟩:=aq h
 ·cases h;exact ZL a @eB.eq_1
 ·obtain⟨m,k,h⟩:=af h;refine ZF a ?_;refine ZSG a (Nh _ _ _ k) ?_;cases h;exact ZL a @eB.eq_1
def GJ(c:ae)(a:aK)(d:List az)(b:List ah×Bool)(v:Int×List aD):St:=⟨[(1,.sl 1000000000 0 d.length),(3,.pt 3 0 0),(5,.pt 5 0 0),(10,.sl 10 0 v.2.length),(37,.sl 8 0 b.1.length),(38,.i (b.1.length:Int)),(39,.i v.1)],[(3,.var (.agg [.lst .m 1 (((c).Nodes).map AV.z),.lst .m 4 (((c).Fibers).map (ai .m))])),(5,.var (.agg [.i ((a).From),.i ((a).To),.i ((a).Rate),.i ((a).Class)])),(8,.arr 2 (b.1.map (ay .u))),(10,.arr 3 (v.2.map (aP .m))),(1000000000,.arr 2 (d.map (au .u)))]⟩
def AM(a:List az)(v:List aD):St:=⟨[(10,.sl 10 0 v.length)],[(10,.arr 3 (v.map (aP .m))),(1000000000,.arr 2 (a.map (au .u)))]⟩
theorem w_ag(d:ae)(g:aK)(a:List az)(j:List ah×Bool)(b:Int×List aD)(o:(Int×List aD)⊕(List aD))(h:DG d g a j b=some o):AWP (OkS Tryz.prog) ot (qL [1,3,5,10,37,38,39] [3,5,8,10,1000000000] (GJ d g a j) (qX 0 [10] [10,1000000000] (AM a)) o) (GJ d g a j b):=by
 have e:=ZA @GJ.eq_1 @AM.eq_1;unfold DG at h;simp only[ZC,GJ,ot];obtain⟨k,h⟩|⟨k,h⟩:=aq h
 ·obtain⟨i1,x,h⟩:=af h;obtain⟨s,y,h⟩:=af h;obtain⟨j1,z,h⟩:=af h;have f:=ZA k (ZA (aW x) y);refine ZF f ?_;refine ZSG f (ST _ _ z) ?_;obtain⟨a1,b1,h⟩:=af h;refine ZF f ?_;refine ZUG f (w_gd _ _ _ b1) ?_;obtain⟨l,h⟩|⟨l,h⟩:=aq h
  ·obtain⟨p,c,h⟩:=aU h;have c1:Row.arr 3 [(.agg [.i s.Start,.lst .m 1 (s.Fibers.map AV.i),.i a1.1]:AV)]=Row.arr 3 (p.map (aP .m)):=by rw[<-c];rfl
   have t:p.length=1:=by rw[<-c];rfl
   obtain⟨k1,d1,h⟩:=af h;have u:=aW d1;obtain⟨v,q,h⟩:=aU h;have g1:b.2.map (aP .m)++p.map (aP .m)=v.map (aP .m):=by rw[<-q,List.map_append]
   have w:b.2.length+1=v.length:=by simp[<-c,<-q]<;>omega
   rw[w] at u;cases h;exact ZL (ZA f (ZA l (ZA c1 (ZA t (ZA u (ZA g1 w)))))) (ZA e (ZA c.symm (ZA q.symm t)))
  ·cases h;exact ZL (ZA f l) e
 ·cases h;exact ZL k e
theorem w_et(c:ae)(a:aK)(d:List az){r:Bool×List aD×List az}(h:FI c a d=some r):OkM Tryz.prog 186 [.agg [.lst .m 1 (((c).Nodes).map AV.z),.lst .m 4 (((c).Fibers).map (ai .m))],.sl 1000000000 0 d.length,.agg [.i ((a).From),.i ((a).To),.i ((a).Rate),.i ((a).Class)]] [(1000000000,.arr 2 (d.map (au .u)))] (.tup [.sl 6 0 r.2.1.length,.b r.1]) ([(6,.arr 3 (r.2.1.map (aP .m))),(1000000000,.arr 2 (r.2.2.map (au .u)))]):=by
 refine aZ (lr:=[6,1000000000]) be Ut rfl rfl ?_;unfold FI at h;simp only[ZC,GB,eB];obtain⟨t,w,h⟩:=af h;try refine ZF trivial ?_
 refine aF (sh:=(fun v=>⟨[(1,.sl 1000000000 0 d.length),(3,.pt 3 0 0),(5,.pt 5 0 0),(24,.b v)],[(3,.var (.agg [.lst .m 1 (((c).Nodes).map AV.z),.lst .m 4 (((c).Fibers).map (ai .m))])),(5,.var (.agg [.i ((a).From),.i ((a).To),.i ((a).Rate),.i ((a).Class)])),(1000000000,.arr 2 (d.map (au .u)))]⟩)) (s:=t) ?_ ?_
 ·replace h:=w;obtain⟨i1,x,h⟩:=af h;refine ZF trivial ?_;refine ZSG trivial (w_ef _ x) ?_;obtain⟨l,h⟩|⟨l,h⟩:=aq h
  ·cases h;exact ZL l trivial
  ·obtain⟨j,k,h⟩:=aU h;have y:Row.arr 4 [(.agg [.i ((a).From),.i ((a).To),.i ((a).Rate),.i ((a).Class)]:AV)]=Row.arr 4 (j.map (aR .u)):=by rw[<-k];rfl
   have q:j.length=1:=by rw[<-k];rfl
   have a1:sub (j.map (aR .u)) 0 1=j.map (aR .u):=lI _ (by simp[<-k]);obtain⟨j1,b1,h⟩:=af h;have f:=ZA l (ZA y (ZA q a1));refine ZF f ?_;refine ZSG f (w_es _ _ b1) ?_;cases h;exact ZL f (ZA k.symm q)
 ·simp only[ZC,vD];obtain⟨g,h⟩|⟨g,h⟩:=aq h
  ·cases h;exact ZL g @eB.eq_1
  ·obtain⟨c1,d1,h⟩:=af h;refine ZF g ?_;refine ZUG g (w_ej _ _ _ d1) ?_;obtain⟨p,h⟩|⟨p,h⟩:=aq h
   ·cases h;exact ZL (ZA g p) @eB.eq_1
   ·obtain⟨k1,g1,h⟩:=af h;have f:=ZA g p;try refine ZF f ?_
    refine aF (bi (aI (w_ag c a d c1) g1 ?_)) ?_
    ·exact ZK (ZA @GJ.eq_1 @AM.eq_1)
    ·simp only[ZC,AM,uP];cases h;exact ZL f @eB.eq_1
def S_x(g:ae)(a:Bool×List aD×List az)(c:Bool×Int×aD×aD)(d:aD)(v:Bool×Int×aD×aD):St:=⟨[(3,.pt 3 0 0),(6,.pt 6 0 0),(7,.pt 7 0 0),(9,.sl 9 0 a.2.1.length),(11,.pt 11 0 0),(12,.pt 12 0 0),(13,.b v.1),(15,.pt 15 0 0),(34,.sl 9 0 a.2.1.length),(35,.i (a.2.1.length:Int)),(36,.i c.2.1),(44,.sl 9 (Int.toNat (IntKind.wrap .i64 (c.2.1+1))) (a.2.1.length-(Int.toNat (IntKind.wrap .i64 (c.2.1+1))))),(45,.i (((a.2.1.length-(Int.toNat (IntKind.wrap .i64 (c.2.1+1)))):Nat):Int)),(46,.i v.2.1)],[(3,.var (.agg [.lst .m 1 (((g).Nodes).map AV.z),.lst .m 4 (((g).Fibers).map (ai .m))])),(6,.var (.agg [.i 0,.lst .u 1 [],.i 0])),(7,.var (.agg [.i 0,.lst .u 1 [],.i 0])),(9,.arr 3 (a.2.1.map (aP .m))),(11,.var (.agg [.i (((v.2.2.1).route).Start),.lst .m 1 ((((v.2.2.1).route).Fibers).map AV.i),.i ((v.2.2.1).count)])),(12,.var (.agg [.i (((v.2.2.2).route).Start),.lst .m 1 ((((v.2.2.2).route).Fibers).map AV.i),.i ((v.2.2.2).count)])),(15,.var (.agg [.i d.route.Start,.lst .m 1 (d.route.Fibers.map AV.i),.i d.count])),(1000000000,.arr 2 (a.2.2.map (au .u)))]⟩
def Pm(c:ae)(a:Bool×List aD×List az)(d:Bool×Int×aD×aD)(v:Bool×aD×aD):St:=⟨[(3,.pt 3 0 0),(6,.pt 6 0 0),(7,.pt 7 0 0),(9,.sl 9 0 a.2.1.length),(11,.pt 11 0 0),(12,.pt 12 0 0),(13,.b v.1),(34,.sl 9 0 a.2.1.length),(35,.i (a.2.1.length:Int)),(36,.i d.2.1)],[(3,.var (.agg [.lst .m 1 (((c).Nodes).map AV.z),.lst .m 4 (((c).Fibers).map (ai .m))])),(6,.var (.agg [.i 0,.lst .u 1 [],.i 0])),(7,.var (.agg [.i 0,.lst .u 1 [],.i 0])),(9,.arr 3 (a.2.1.map (aP .m))),(11,.var (.agg [.i (((v.2.1).route).Start),.lst .m 1 ((((v.2.1).route).Fibers).map AV.i),.i ((v.2.1).count)])),(12,.var (.agg [.i (((v.2.2).route).Start),.lst .m 1 ((((v.2.2).route).Fibers).map AV.i),.i ((v.2.2).count)])),(1000000000,.arr 2 (a.2.2.map (au .u)))]⟩
theorem w_x(k:ae)(c:Bool×List aD×List az)(d:Bool×Int×aD×aD)(j:aD)(a:Bool×Int×aD×aD)(o:(Bool×Int×aD×aD)⊕(Bool×aD×aD))(h:M_x k c d j a=some o):AWP (OkS Tryz.prog) qa (qL [3,6,7,9,11,12,13,15,34,35,36,44,45,46] [3,6,7,9,11,12,15,1000000000] (S_x k c d j) (qX 2 [3,6,7,9,11,12,13,34,35,36] [3,6,7,9,11,12,1000000000] (Pm k c d)) o) (S_x k c d j a):=by
 have e:=ZA @S_x.eq_1 @Pm.eq_1;unfold M_x at h;simp only[ZC,S_x,qa];obtain⟨x,h⟩|⟨x,h⟩:=aq h
 ·obtain⟨w2,j1,h⟩:=af h;obtain⟨x2,k1,h⟩:=af h;obtain⟨y2,l1,h⟩:=af h;have f:=ZA x (ZA (aW j1) k1);refine ZF f ?_;refine ZSG f (Nh _ _ _ l1) ?_;obtain⟨y,h⟩|⟨y,h⟩:=aq h
  ·cases h;exact ZL (ZA f y) e
  ·obtain⟨g,m1,h⟩:=af h;have f:=ZA f y;try refine ZF f ?_
   refine aF (sh:=(fun v=>⟨[(3,.pt 3 0 0),(6,.pt 6 0 0),(7,.pt 7 0 0),(9,.sl 9 0 c.2.1.length),(11,.pt 11 0 0),(12,.pt 12 0 0),(13,.b a.1),(15,.pt 15 0 0),(18,.pt 18 0 0),(19,.pt 19 0 0),(34,.sl 9 0 c.2.1.length),(35,.i (c.2.1.length:Int)),(36,.i d.2.1),(44,.sl 9 (Int.toNat (IntKind.wrap .i64 (d.2.1+1))) (c.2.1.length-(Int.toNat (IntKind.wrap .i64 (d.2.1+1))))),(45,.i (((c.2.1.length-(Int.toNat (IntKind.wrap .i64 (d.2.1+1)))):Nat):Int)),(46,.i a.2.1)],[(3,.var (.agg [.lst .m 1 (((k).Nodes).map AV.z),.lst .m 4 (((k).Fibers).map (ai .m))])),(6,.var (.agg [.i 0,.lst .u 1 [],.i 0])),(7,.var (.agg [.i 0,.lst .u 1 [],.i 0])),(9,.arr 3 (c.2.1.map (aP .m))),(11,.var (.agg [.i (((a.2.2.1).route).Start),.lst .m 1 ((((a.2.2.1).route).Fibers).map AV.i),.i ((a.2.2.1).count)])),(12,.var (.agg [.i (((a.2.2.2).route).Start),.lst .m 1 ((((a.2.2.2).route).Fibers).map AV.i),.i ((a.2.2.2).count)])),(15,.var (.agg [.i j.route.Start,.lst .m 1 (j.route.Fibers.map AV.i),.i j.count])),(18,.var (.agg [.i (((v.1).route).Start),.lst .m 1 ((((v.1).route).Fibers).map AV.i),.i ((v.1).count)])),(19,.var (.agg [.i (((v.2).route).Start),.lst .m 1 ((((v.2).route).Fibers).map AV.i),.i ((v.2).count)])),(1000000000,.arr 2 (c.2.2.map (au .u)))]⟩)) (s:=g) ?_ ?_
   ·replace h:=m1;obtain⟨z2,p1,h⟩:=af h;refine ZF f ?_;refine ZSG f (w_l _ p1) ?_;obtain⟨a3,q1,h⟩:=af h;refine ZF f ?_;refine ZSG f (w_l _ q1) ?_;obtain⟨a1,h⟩|⟨a1,h⟩:=aq h
    ·cases h;exact ZL (ZA f a1) trivial
    ·cases h;exact ZL (ZA f a1) trivial
   ·simp only[ZC,ue];obtain⟨b3,s1,h⟩:=af h;refine ZF f ?_;refine ZSG f (w_l _ s1) ?_;obtain⟨c3,t1,h⟩:=af h;refine ZF f ?_;refine ZSG f (w_l _ t1) ?_;obtain⟨d3,u1,h⟩:=af h;refine ZF f ?_;refine ZSG f (w_l _ u1) ?_;obtain⟨g3,v1,h⟩:=af h;refine ZF f ?_;refine ZSG f (w_l _ v1) ?_;obtain⟨w1,y1,h⟩:=af h;refine ZF f ?_;refine ZSG f (w_m _ _ y1) ?_;obtain⟨q,p,h⟩:=aU h;have z1:Row.arr 1 [(.i w1:AV),(.i 0:AV)]=Row.arr 1 (q.map AV.i):=by rw[<-p];rfl
    have l:q.length=2:=by rw[<-p];rfl
    have a2:sub (q.map AV.i) 0 2=q.map AV.i:=lI _ (by simp[<-p]);obtain⟨b2,c2,h⟩:=af h;have f:=ZA f (ZA z1 (ZA l a2));refine ZF f ?_;refine ZSG f (QN _ c2) ?_;obtain⟨d2,g2,h⟩:=af h;try refine ZF f ?_
    refine aF (sh:=(fun v=>⟨[(3,.pt 3 0 0),(6,.pt 6 0 0),(7,.pt 7 0 0),(9,.sl 9 0 c.2.1.length),(11,.pt 11 0 0),(12,.pt 12 0 0),(13,.b a.1),(15,.pt 15 0 0),(18,.pt 18 0 0),(19,.pt 19 0 0),(20,.i v),(34,.sl 9 0 c.2.1.length),(35,.i (c.2.1.length:Int)),(36,.i d.2.1),(44,.sl 9 (Int.toNat (IntKind.wrap .i64 (d.2.1+1))) (c.2.1.length-(Int.toNat (IntKind.wrap .i64 (d.2.1+1))))),(45,.i (((c.2.1.length-(Int.toNat (IntKind.wrap .i64 (d.2.1+1)))):Nat):Int)),(46,.i a.2.1)],[(3,.var (.agg [.lst .m 1 (((k).Nodes).map AV.z),.lst .m 4 (((k).Fibers).map (ai .m))])),(6,.var (.agg [.i 0,.lst .u 1 [],.i 0])),(7,.var (.agg [.i 0,.lst .u 1 [],.i 0])),(9,.arr 3 (c.2.1.map (aP .m))),(11,.var (.agg [.i (((a.2.2.1).route).Start),.lst .m 1 ((((a.2.2.1).route).Fibers).map AV.i),.i ((a.2.2.1).count)])),(12,.var (.agg [.i (((a.2.2.2).route).Start),.lst .m 1 ((((a.2.2.2).route).Fibers).map AV.i),.i ((a.2.2.2).count)])),(15,.var (.agg [.i j.route.Start,.lst .m 1 (j.route.Fibers.map AV.i),.i j.count])),(18,.var (.agg [.i (((g.1).route).Start),.lst .m 1 ((((g.1).route).Fibers).map AV.i),.i ((g.1).count)])),(19,.var (.agg [.i (((g.2).route).Start),.lst .m 1 ((((g.2).route).Fibers).map AV.i),.i ((g.2).count)])),(1000000000,.arr 2 (c.2.2.map (au .u)))]⟩)) (s:=d2) ?_ ?_
    ·replace h:=g2;obtain⟨i2,j2,h⟩:=af h;try refine ZF f ?_
     refine aF (sh:=(fun v=>⟨[(3,.pt 3 0 0),(6,.pt 6 0 0),(7,.pt 7 0 0),(9,.sl 9 0 c.2.1.length),(11,.pt 11 0 0),(12,.pt 12 0 0),(13,.b a.1),(15,.pt 15 0 0),(18,.pt 18 0 0),(19,.pt 19 0 0),(20,.i b2),(34,.sl 9 0 c.2.1.length),(35,.i (c.2.1.length:Int)),(36,.i d.2.1),(44,.sl 9 (Int.toNat (IntKind.wrap .i64 (d.2.1+1))) (c.2.1.length-(Int.toNat (IntKind.wrap .i64 (d.2.1+1))))),(45,.i (((c.2.1.length-(Int.toNat (IntKind.wrap .i64 (d.2.1+1)))):Nat):Int)),(46,.i a.2.1),(85,.b v)],[(3,.var (.agg [.lst .m 1 (((k).Nodes).map AV.z),.lst .m 4 (((k).Fibers).map (ai .m))])),(6,.var (.agg [.i 0,.lst .u 1 [],.i 0])),(7,.var (.agg [.i 0,.lst .u 1 [],.i 0])),(9,.arr 3 (c.2.1.map (aP .m))),(11,.var (.agg [.i (((a.2.2.1).route).Start),.lst .m 1 ((((a.2.2.1).route).Fibers).map AV.i),.i ((a.2.2.1).count)])),(12,.var (.agg [.i (((a.2.2.2).route).Start),.lst .m 1 ((((a.2.2.2).route).Fibers).map AV.i),.i ((a.2.2.2).count)])),(15,.var (.agg [.i j.route.Start,.lst .m 1 (j.route.Fibers.map AV.i),.i j.count])),(18,.var (.agg [.i (((g.1).route).Start),.lst .m 1 ((((g.1).route).Fibers).map AV.i),.i ((g.1).count)])),(19,.var (.agg [.i (((g.2).route).Start),.lst .m 1 ((((g.2).route).Fibers).map AV.i),.i ((g.2).count)])),(1000000000,.arr 2 (c.2.2.map (au .u)))]⟩)) (s:=i2) ?_ ?_
     ·replace h:=j2;obtain⟨b1,h⟩|⟨b1,h⟩:=aq h
      ·cases h;exact ZL (ZA f b1) (ZA p.symm l)
      ·cases h;exact ZL (ZA f b1) (ZA p.symm l)
     ·simp only[ZC,wo];obtain⟨c1,h⟩|⟨c1,h⟩:=aq h
      ·obtain⟨k2,l2,h⟩:=af h;have f:=ZA f c1;refine ZF f ?_;refine ZSG f (TQ _ _ _ l2) ?_;obtain⟨m2,p2,h⟩:=af h;refine ZF f ?_;refine ZSG f (TQ _ _ _ p2) ?_;obtain⟨t,w,h⟩:=aU h;have q2:Row.arr 1 [(.i k2:AV),(.i m2:AV)]=Row.arr 1 (t.map AV.i):=by rw[<-w];rfl
       have i1:t.length=2:=by rw[<-w];rfl
       have s2:sub (t.map AV.i) 0 2=t.map AV.i:=lI _ (by simp[<-w]);obtain⟨i3,t2,h⟩:=af h;have f:=ZA f (ZA q2 (ZA i1 s2));refine ZF f ?_;refine ZSG f (QN _ t2) ?_;cases h;exact ZL f (ZA w.symm (ZA l i1))
      ·cases h;exact ZL (ZA f c1) l
    ·simp only[ZC,vC];obtain⟨u2,v2,h⟩:=af h;try refine ZF f ?_
     refine aF (sh:=(fun v=>⟨[(3,.pt 3 0 0),(6,.pt 6 0 0),(7,.pt 7 0 0),(9,.sl 9 0 c.2.1.length),(11,.pt 11 0 0),(12,.pt 12 0 0),(13,.b a.1),(15,.pt 15 0 0),(18,.pt 18 0 0),(19,.pt 19 0 0),(34,.sl 9 0 c.2.1.length),(35,.i (c.2.1.length:Int)),(36,.i d.2.1),(44,.sl 9 (Int.toNat (IntKind.wrap .i64 (d.2.1+1))) (c.2.1.length-(Int.toNat (IntKind.wrap .i64 (d.2.1+1))))),(45,.i (((c.2.1.length-(Int.toNat (IntKind.wrap .i64 (d.2.1+1)))):Nat):Int)),(46,.i a.2.1),(105,.b v)],[(3,.var (.agg [.lst .m 1 (((k).Nodes).map AV.z),.lst .m 4 (((k).Fibers).map (ai .m))])),(6,.var (.agg [.i 0,.lst .u 1 [],.i 0])),(7,.var (.agg [.i 0,.lst .u 1 [],.i 0])),(9,.arr 3 (c.2.1.map (aP .m))),(11,.var (.agg [.i (((a.2.2.1).route).Start),.lst .m 1 ((((a.2.2.1).route).Fibers).map AV.i),.i ((a.2.2.1).count)])),(12,.var (.agg [.i (((a.2.2.2).route).Start),.lst .m 1 ((((a.2.2.2).route).Fibers).map AV.i),.i ((a.2.2.2).count)])),(15,.var (.agg [.i j.route.Start,.lst .m 1 (j.route.Fibers.map AV.i),.i j.count])),(18,.var (.agg [.i (((g.1).route).Start),.lst .m 1 ((((g.1).route).Fibers).map AV.i),.i ((g.1).count)])),(19,.var (.agg [.i (((g.2).route).Start),.lst .m 1 ((((g.2).route).Fibers).map AV.i),.i ((g.2).count)])),(1000000000,.arr 2 (c.2.2.map (au .u)))]⟩)) (s:=u2) ?_ ?_
     ·replace h:=v2;obtain⟨d1,h⟩|⟨d1,h⟩:=aq h
      ·cases h;exact ZL (ZA f d1) l
      ·cases h;exact ZL (ZA f d1) l
     ·simp only[ZC,uN];obtain⟨g1,h⟩|⟨g1,h⟩:=aq h
      ·cases h;exact ZL (ZA f g1) (ZA e l)
      ·cases h;exact ZL (ZA f g1) (ZA e l)
 ·cases h;exact ZL x e
def S_w(c:ae)(a:Bool×List aD×List az)(v:Bool×Int×aD×aD):St:=⟨[(3,.pt 3 0 0),(6,.pt 6 0 0),(7,.pt 7 0 0),(9,.sl 9 0 a.2.1.length),(11,.pt 11 0 0),(12,.pt 12 0 0),(13,.b v.1),(34,.sl 9 0 a.2.1.length),(35,.i (a.2.1.length:Int)),(36,.i v.2.1)],[(3,.var (.agg [.lst .m 1 (((c).Nodes).map AV.z),.lst .m 4 (((c).Fibers).map (ai .m))])),(6,.var (.agg [.i 0,.lst .u 1 [],.i 0])),(7,.var (.agg [.i 0,.lst .u 1 [],.i 0])),(9,.arr 3 (a.2.1.map (aP .m))),(11,.var (.agg [.i (((v.2.2.1).route).Start),.lst .m 1 ((((v.2.2.1).route).Fibers).map AV.i),.i ((v.2.2.1).count)])),(12,.var (.agg [.i (((v.2.2.2).route).Start),.lst .m 1 ((((v.2.2.2).route).Fibers).map AV.i),.i ((v.2.2.2).count)])),(1000000000,.arr 2 (a.2.2.map (au .u)))]⟩
def OM(a:Bool×List aD×List az)(v:Bool×aD×aD):St:=⟨[(6,.pt 6 0 0),(7,.pt 7 0 0),(11,.pt 11 0 0),(12,.pt 12 0 0),(13,.b v.1)],[(6,.var (.agg [.i 0,.lst .u 1 [],.i 0])),(7,.var (.agg [.i 0,.lst .u 1 [],.i 0])),(11,.var (.agg [.i (((v.2.1).route).Start),.lst .m 1 ((((v.2.1).route).Fibers).map AV.i),.i ((v.2.1).count)])),(12,.var (.agg [.i (((v.2.2).route).Start),.lst .m 1 ((((v.2.2).route).Fibers).map AV.i),.i ((v.2.2).count)])),(1000000000,.arr 2 (a.2.2.map (au .u)))]⟩
theorem w_w(c:ae)(a:Bool×List aD×List az)(d:Bool×Int×aD×aD)(o:(Bool×Int×aD×aD)⊕(Bool×aD×aD))(h:M_w c a d=some o):AWP (OkS Tryz.prog) qk (qL [3,6,7,9,11,12,13,34,35,36] [3,6,7,9,11,12,1000000000] (S_w c a) (qX 0 [6,7,11,12,13] [6,7,11,12,1000000000] (OM a)) o) (S_w c a d):=by
 have e:=ZA @S_w.eq_1 @OM.eq_1;unfold M_w at h;simp only[ZC,S_w,qk];obtain⟨g,h⟩|⟨g,h⟩:=aq h
 ·obtain⟨p,q,h⟩:=af h;try refine ZF g ?_
  refine aF (sh:=(fun v=>⟨[(3,.pt 3 0 0),(6,.pt 6 0 0),(7,.pt 7 0 0),(9,.sl 9 0 a.2.1.length),(11,.pt 11 0 0),(12,.pt 12 0 0),(13,.b v.1),(34,.sl 9 0 a.2.1.length),(35,.i (a.2.1.length:Int)),(36,.i d.2.1)],[(3,.var (.agg [.lst .m 1 (((c).Nodes).map AV.z),.lst .m 4 (((c).Fibers).map (ai .m))])),(6,.var (.agg [.i 0,.lst .u 1 [],.i 0])),(7,.var (.agg [.i 0,.lst .u 1 [],.i 0])),(9,.arr 3 (a.2.1.map (aP .m))),(11,.var (.agg [.i (((v.2.1).route).Start),.lst .m 1 ((((v.2.1).route).Fibers).map AV.i),.i ((v.2.1).count)])),(12,.var (.agg [.i (((v.2.2).route).Start),.lst .m 1 ((((v.2.2).route).Fibers).map AV.i),.i ((v.2.2).count)])),(1000000000,.arr 2 (a.2.2.map (au .u)))]⟩)) (s:=p) ?_ ?_
  ·replace h:=q;obtain⟨y,t,h⟩:=af h;obtain⟨j,w,h⟩:=af h;obtain⟨a1,x,h⟩:=af h;obtain⟨b1,k,h⟩:=af h;try refine ZF (ZA g (ZA (aW t) (ZA w (aW x)))) ?_
   first|refine dG (bi (aI (w_x c a d j) k ?_)) (fun τ l=>?_)|refine eR (aI (w_x c a d j) k ?_) (fun τ l=>?_)
   ·exact ZK (ZA @S_x.eq_1 @Pm.eq_1)
   ·cases h;try refine ZF trivial ?_
    refine⟨rfl,Shp.sub l (by decide) (by decide) ?_⟩;exact ZK @Pm.eq_1
  ·simp only[ZC,tV];cases h;exact ZL g e
 ·cases h;exact ZL g e
theorem w_gf(c:ae)(a:aK)(g:List az){r:aD×aD×Bool×List az}(h:LY c a g=some r):OkM Tryz.prog 124 [.agg [.lst .m 1 (((c).Nodes).map AV.z),.lst .m 4 (((c).Fibers).map (ai .m))],.sl 1000000000 0 g.length,.agg [.i ((a).From),.i ((a).To),.i ((a).Rate),.i ((a).Class)]] [(1000000000,.arr 2 (g.map (au .u)))] (.tup [.agg [.i (((r.1).route).Start),.lst .m 1 ((((r.1).route).Fibers).map AV.i),.i ((r.1).count)],.agg [.i (((r.2.1).route).Start),.lst .m 1 ((((r.2.1).route).Fibers).map AV.i),.i ((r.2.1).count)],.b r.2.2.1]) ([(1000000000,.arr 2 (r.2.2.2.map (au .u)))]):=by
 refine aZ (lr:=[1000000000]) be UU rfl rfl ?_;unfold LY at h;simp only[ZC,JX,sU];obtain⟨j,k,h⟩:=af h;refine ZF trivial ?_;refine ZWG trivial (w_et _ _ _ k) [6,1000000000] [2600006] ?_;obtain⟨d,h⟩|⟨d,h⟩:=aq h
 ·cases h;exact ZL d @sU.eq_1
 ·obtain⟨p,l,h⟩:=af h;try refine ZF d ?_
  refine aF (bi (aI (w_w c j) l ?_)) ?_
  ·exact ZK (ZA @S_w.eq_1 @OM.eq_1)
  ·simp only[ZC,OM,uy];cases h;exact ZL d @sU.eq_1
theorem w_gv(c:ae)(a:aK)(d:List az){r:ah×ah×Bool×List az}(h:Py c a d=some r):OkM Tryz.prog 47 [.agg [.lst .m 1 (((c).Nodes).map AV.z),.lst .m 4 (((c).Fibers).map (ai .m))],.sl 1000000000 0 d.length,.agg [.i ((a).From),.i ((a).To),.i ((a).Rate),.i ((a).Class)]] [(1000000000,.arr 2 (d.map (au .u)))] (.tup [.agg [.i ((r.1).Start),.lst .m 1 (((r.1).Fibers).map AV.i)],.agg [.i ((r.2.1).Start),.lst .m 1 (((r.2.1).Fibers).map AV.i)],.b r.2.2.1]) ([(1000000000,.arr 2 (r.2.2.2.map (au .u)))]):=by
 refine aZ (lr:=[1000000000]) be Wt rfl rfl ?_;unfold Py at h;simp only[ZC,Rp,mU];obtain⟨j,g,h⟩:=af h;refine ZF trivial ?_;refine ZWG trivial (w_gf _ _ _ g) [1000000000] [] ?_;cases h;exact ZL trivial @mU.eq_1
theorem w_gw(k:List Int){r:Bool}(h:QT k=some r):Ok Tryz.prog 8 [.lst .o 1 (k.map AV.u8)] (.b r):=by
 have e:=@V10.eq_1;refine aB be m8 rfl ?_;unfold QT at h;simp only[ZC,A8,V10,aL];obtain⟨u1,y,h⟩:=af h;refine ZF trivial ?_;refine ZSG trivial (w_gm _ y) ?_;obtain⟨a,h⟩|⟨a,h⟩:=aq h
 ·cases h;exact ZL a e
 ·obtain⟨v1,a1,h⟩:=af h;refine ZF a ?_;refine ZWG a (w_fp _ a1) [] [] ?_;obtain⟨w1,b1,h⟩:=af h;refine ZF a ?_;refine ZUG a (w_ee _ _ _ b1) ?_;obtain⟨y1,c1,h⟩:=af h;refine ZF a ?_;refine ZUG a (w_ee _ _ _ c1) ?_;obtain⟨z1,d1,h⟩:=af h;refine ZF a ?_;refine ZUG a (w_fy _ _ _ d1) ?_;obtain⟨g1,i1,h⟩:=af h;try refine ZF a ?_
  refine aF (sh:=(fun v=>⟨[(0,.lst .o 1 (k.map AV.u8)),(69,.b v)],[]⟩)) (s:=g1) ?_ ?_
  ·replace h:=i1;obtain⟨c,h⟩|⟨c,h⟩:=aq h
   ·cases h;exact ZL (ZA a c) trivial
   ·obtain⟨g,h⟩|⟨g,h⟩:=aq h
    ·cases h;exact ZL (ZA a (ZA c g)) trivial
    ·obtain⟨l,h⟩|⟨l,h⟩:=aq h
     ·cases h;exact ZL (ZA a (ZA c (ZA g l))) trivial
     ·cases h;exact ZL (ZA a (ZA c (ZA g l))) trivial
  ·simp only[ZC,A8R1];obtain⟨p,h⟩|⟨p,h⟩:=aq h
   ·cases h;exact ZL (ZA a p) e
   ·obtain⟨x,j1,h⟩:=af h;have f:=ZA a p;refine ZF f ?_;refine ZUG f (w_ga _ j1) ?_;obtain⟨d,k1,h⟩:=af h;refine ZF f ?_;refine ZWG f (w_gv _ _ _ k1) [1000000000] [] ?_;obtain⟨a2,l1,h⟩:=af h;refine ZF f ?_;refine ZWG f (w_co _ _ _ _ _ l1) [1000000000] [] ?_;obtain⟨m1,p1,h⟩:=af h;try refine ZF f ?_
    refine aF (sh:=(fun v=>⟨[(12,.pt 12 0 0),(15,.pt 15 0 0),(16,.pt 16 0 0),(17,.b d.2.2.1),(106,.b v)],[(12,.var (.agg [.lst .m 1 (x.1.Nodes.map AV.z),.lst .m 4 (x.1.Fibers.map (ai .m))])),(15,.var (.agg [.i ((d.1).Start),.lst .m 1 (((d.1).Fibers).map AV.i)])),(16,.var (.agg [.i ((d.2.1).Start),.lst .m 1 (((d.2.1).Fibers).map AV.i)]))]⟩)) (s:=m1) ?_ ?_
    ·replace h:=p1;obtain⟨q,h⟩|⟨q,h⟩:=aq h
     ·cases h;exact ZL (ZA f q) trivial
     ·obtain⟨b2,q1,h⟩:=af h;have f:=ZA f q;refine ZF f ?_;refine ZSG f (w_eg _ _ q1) ?_;obtain⟨t,h⟩|⟨t,h⟩:=aq h
      ·cases h;exact ZL (ZA f t) trivial
      ·obtain⟨c2,s1,h⟩:=af h;have f:=ZA f t;refine ZF f ?_;refine ZSG f (w_eg _ _ s1) ?_;cases h;exact ZL f trivial
    ·simp only[ZC,A8R2];obtain⟨u,h⟩|⟨u,h⟩:=aq h
     ·cases h;exact ZL (ZA f u) e
     ·obtain⟨d2,t1,h⟩:=af h;have f:=ZA f u;refine ZF f ?_;refine ZUG f (w_gu _ _ _ t1) ?_;obtain⟨j,h⟩|⟨j,h⟩:=aq h
      ·cases h;exact ZL (ZA f j) e
      ·obtain⟨w,h⟩|⟨w,h⟩:=aq h
       ·cases h;exact ZL (ZA f (ZA j w)) e
       ·cases h;exact ZL (ZA f (ZA j w)) e
end Vs

