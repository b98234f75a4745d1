/-
  Part of the proof that the law FnExactRestoreLight returns true at every input; no condition beside the row's own.
-/
import Derived.Test.YtgpbibgbfklikaaGreatBb
set_option linter.defProp false
set_option linter.unusedSimpArgs false
set_option linter.unusedVariables false
set_option maxHeartbeats 1000000
set_option maxRecDepth 8000
namespace Vs
open Go Go.Proofs
attribute [local irreducible] AWP dF eff tJ gi callM
theorem w_dr(c:af)(a:ar){r:List Int×Bool}(h:Cg c a=some r):Ok Tryz.prog 135 [.agg [.lst .o 1 (c.Nodes.map AV.z),.lst .o 4 (c.Fibers.map (ah .o))],.agg [.i a.Start,.lst .o 1 (a.Fibers.map AV.i)]] (.tup [.lst .u 1 (r.1.map AV.i),.b r.2]):=by
 refine ax aY m135 rfl ?_;unfold Cg at h;simp only[ZC,A135,nb,aB];obtain⟨m,p,h⟩:=ae h;try refine ZF trivial ?_
 refine aJ (sh:=(fun v=>⟨[(2,.pt 2 0 0),(3,.pt 3 0 0),(23,.b v)],[(2,.var (.agg [.lst .o 1 (c.Nodes.map AV.z),.lst .o 4 (c.Fibers.map (ah .o))])),(3,.var (.agg [.i a.Start,.lst .o 1 (a.Fibers.map AV.i)]))]⟩)) (s:=m) ?_ ?_
 ·replace h:=p;obtain⟨a1,q,h⟩:=ae h;refine ZF trivial ?_;refine ZSG trivial (w_h _ _ _ q) ?_;obtain⟨d,h⟩|⟨d,h⟩:=au h
  ·cases h;exact ZL d trivial
  ·cases h;exact ZL d trivial
 ·simp only[ZC,Lt];obtain⟨g,h⟩|⟨g,h⟩:=au h
  ·cases h;exact ZL g @nb.eq_1
  ·obtain⟨l,j,h⟩:=bl h;have t:Row.arr 1 [(.i a.Start:AV)]=Row.arr 1 (l.map AV.i):=by rw[<-j];rfl
   have k:l.length=1:=by rw[<-j];rfl
   obtain⟨w,x,h⟩:=ae h;have f:=ZA g (ZA t k);try refine ZF f ?_
   refine bj (o:=w) (bq cy (aG (w_bb c a) x ?_)) (fun b1 hv=>?_) (fun c1 hv e τ hne hq=>?_)
   ·exact ZK (ZA @Dp.eq_1 (ZA @rL.eq_1 (ZA j.symm k)))
   ·subst hv;simp only[] at h;simp only[ZC,rL,LQ];cases h;exact ZL f (ZA @nb.eq_1 k)
   ·subst hv;simp only[] at h;obtain⟨rfl,y⟩:=hq;cases h;exact y
theorem w_fe(c:bc){r:Bool}(h:IE c=some r):Ok Tryz.prog 183 [.agg [.i c.First,.i c.Count]] (.b r):=by
 refine ax aY m183 rfl ?_;unfold IE at h;simp only[ZC,A183,V91,aB];obtain⟨a,h⟩|⟨a,h⟩:=au h
 ·obtain⟨j,g,h⟩:=ae h;refine ZF a ?_;refine ZSG a (w_h _ _ _ g) ?_;obtain⟨d,h⟩|⟨d,h⟩:=au h
  ·cases h;exact ZL (ZA a d) @V91.eq_1
  ·cases h;exact ZL (ZA a d) @V91.eq_1
 ·cases h;exact ZL a @V91.eq_1
theorem w_ff(d:af)(a:aq){r:Bool}(h:MF d a=some r):Ok Tryz.prog 129 [.agg [.lst .o 1 (d.Nodes.map AV.z),.lst .o 4 (d.Fibers.map (ah .o))],.agg [.i a.Id,.i a.Route.Start,.lst .o 1 (a.Route.Fibers.map AV.i),.i a.Block.First,.i a.Block.Count]] (.b r):=by
 refine ax aY m129 rfl ?_;unfold MF at h;simp only[ZC,A129,V85,aB];obtain⟨m,j,h⟩:=ae h;refine ZF trivial ?_;refine ZUG trivial (w_dr _ _ j) ?_;obtain⟨c,h⟩|⟨c,h⟩:=au h
 ·obtain⟨p,k,h⟩:=ae h;refine ZF c ?_;refine ZSG c (w_h _ _ _ k) ?_;obtain⟨g,h⟩|⟨g,h⟩:=au h
  ·obtain⟨q,l,h⟩:=ae h;have f:=ZA c g;refine ZF f ?_;refine ZSG f (w_fe _ l) ?_;cases h;exact ZL f @V85.eq_1
  ·cases h;exact ZL (ZA c g) @V85.eq_1
 ·cases h;exact ZL c @V85.eq_1
theorem RX(a:bc){r:Int}(h:vm a=some r):Ok Tryz.prog 184 [.agg [.i a.First,.i a.Count]] (.i r):=by
 refine ax aY m184 rfl ?_;unfold vm at h;simp only[ZC,A184,V91,aB];obtain⟨d,b,h⟩:=ae h;obtain⟨g,c,h⟩:=ae h;cases h;exact ZL (ZA (bf b) (bf c)) @V91.eq_1
theorem w_if(d:Int){r:Int}(h:Vl d=some r):Ok Tryz.prog 211 [.sc (.int .u64 d)] (.i r):=by
 refine ax aY m211 rfl ?_;unfold Vl at h;simp only[ZC,A211,V91,aB];obtain⟨g,j,h⟩:=ae h;try refine ZF trivial ?_
 refine aJ (sh:=(fun v=>⟨[(0,.sc (.int .u64 v.1)),(2,.i v.2)],[]⟩)) (s:=g) ?_ ?_
 ·replace h:=j;obtain⟨a,h⟩|⟨a,h⟩:=au h
  ·cases h;exact ZL a trivial
  ·cases h;exact ZL a trivial
 ·simp only[ZC,Md];obtain⟨k,l,h⟩:=ae h;try refine ZF trivial ?_
  refine aJ (sh:=(fun v=>⟨[(0,.sc (.int .u64 v.1)),(2,.i v.2)],[]⟩)) (s:=k) ?_ ?_
  ·replace h:=l;obtain⟨b,h⟩|⟨b,h⟩:=au h
   ·cases h;exact ZL b trivial
   ·cases h;exact ZL b trivial
  ·simp only[ZC,Hn];obtain⟨m,p,h⟩:=ae h;try refine ZF trivial ?_
   refine aJ (sh:=(fun v=>⟨[(0,.sc (.int .u64 v.1)),(2,.i v.2)],[]⟩)) (s:=m) ?_ ?_
   ·replace h:=p;obtain⟨c,h⟩|⟨c,h⟩:=au h
    ·cases h;exact ZL c trivial
    ·cases h;exact ZL c trivial
   ·simp only[ZC,IC];obtain⟨t,q,h⟩:=ae h;cases h;exact ZL (jU q) @V91.eq_1
theorem w_ez(a:Int){r:Int}(h:NW a=some r):Ok Tryz.prog 172 [.sc (.int .u64 a)] (.i r):=by
 refine ax aY m172 rfl ?_;unfold NW at h;simp only[ZC,A172,V91,aB];obtain⟨c,b,h⟩:=ae h;refine ZF trivial ?_;refine ZSG trivial (w_if _ b) ?_;cases h;exact ZL trivial @V91.eq_1
theorem w_ex(d:Int)(g:Int){r:Bool}(h:HY d g=some r):Ok Tryz.prog 207 [.i d,.i g] (.b r):=by
 refine ax aY m207 rfl ?_;unfold HY at h;simp only[ZC,A207,V85,aB];obtain⟨l,j,h⟩:=ae h;refine ZF trivial ?_;refine ZSG trivial (Rh _ j) ?_;obtain⟨a,h⟩|⟨a,h⟩:=au h
 ·obtain⟨m,k,h⟩:=ae h;refine ZF a ?_;refine ZSG a (Rh _ k) ?_;obtain⟨c,h⟩|⟨c,h⟩:=au h
  ·cases h;exact ZL (ZA a c) @V85.eq_1
  ·cases h;exact ZL (ZA a c) @V85.eq_1
 ·cases h;exact ZL a @V85.eq_1
def S_n(a:Int)(b:Int)(c:Int×List Int)(v:Int×List Int):St:=⟨[(0,.sl 1000000000 0 v.2.length),(1,.i a),(2,.i b),(6,.i c.1),(7,.i v.1)],[(1000000000,.arr 1 (v.2.map AV.i))]⟩
def OP(a:Int)(b:Int)(c:Int×List Int)(v:List Int):St:=⟨[(0,.sl 1000000000 0 v.length),(1,.i a),(2,.i b),(6,.i c.1)],[(1000000000,.arr 1 (v.map AV.i))]⟩
theorem w_n(c:Int)(d:Int)(g:Int×List Int)(a:Int×List Int)(o:(Int×List Int)⊕(List Int))(h:M_n c a=some o):AWP (OkS Tryz.prog) qt (qL [0,1,2,6,7] [1000000000] (S_n c d g) (qX 2 [0,1,2,6] [1000000000] (OP c d g)) o) (S_n c d g a):=by
 have e:=ZA @S_n.eq_1 @OP.eq_1;unfold M_n at h;simp only[ZC,S_n,qt];obtain⟨q,t,h⟩:=ae h;try refine ZF trivial ?_
 refine aJ (sh:=(fun v=>⟨[(0,.sl 1000000000 0 a.2.length),(1,.i c),(2,.i d),(6,.i g.1),(7,.i a.1),(30,.b v)],[(1000000000,.arr 1 (a.2.map AV.i))]⟩)) (s:=q) ?_ ?_
 ·replace h:=t;obtain⟨j,h⟩|⟨j,h⟩:=au h
  ·obtain⟨p1,u,h⟩:=ae h;obtain⟨q1,w,h⟩:=ae h;obtain⟨s1,x,h⟩:=ae h;obtain⟨t1,y,h⟩:=ae h;obtain⟨u1,z,h⟩:=ae h;have f:=ZA j (ZA (bf u) (ZA w (ZA (bf x) y)));refine ZF f ?_;refine ZSG f (w_ex _ _ z) ?_;cases h;exact ZL f trivial
  ·cases h;exact ZL j trivial
 ·simp only[ZC,vg];obtain⟨k,h⟩|⟨k,h⟩:=au h
  ·obtain⟨v1,a1,h⟩:=ae h;obtain⟨b1,c1,h⟩:=ae h;obtain⟨w1,d1,h⟩:=ae h;obtain⟨g1,i1,h⟩:=ae h;obtain⟨l,m,h⟩:=bl h;have j1:(a.2.map AV.i).set (Int.toNat a.1) (.i b1)=l.map AV.i:=by rw[<-m,List.map_set]
   obtain⟨y1,k1,h⟩:=ae h;obtain⟨l1,p,h⟩:=bl h;have m1:(l.map AV.i).set (Int.toNat (IntKind.wrap .i64 (a.1-1))) (.i g1)=l1.map AV.i:=by rw[<-p,List.map_set]
   cases h;exact ZL (ZA k (ZA (bf a1) (ZA c1 (ZA (bf d1) (ZA i1 (ZA j1 (ZA k1 m1))))))) (ZA e (ZA m.symm p.symm))
  ·cases h;exact ZL k e
def S_v(a:Int)(b:Int)(v:Int×List Int):St:=⟨[(0,.sl 1000000000 0 v.2.length),(1,.i a),(2,.i b),(6,.i v.1)],[(1000000000,.arr 1 (v.2.map AV.i))]⟩
def Qi(v:List Int):St:=⟨[],[(1000000000,.arr 1 (v.map AV.i))]⟩
theorem w_v(a:Int)(b:Int)(c:Int×List Int)(o:(Int×List Int)⊕(List Int))(h:M_v a b c=some o):AWP (OkS Tryz.prog) pX (qL [0,1,2,6] [1000000000] (S_v a b) (qX 0 [] [1000000000] (Qi)) o) (S_v a b c):=by
 have e:=ZA @S_v.eq_1 @Qi.eq_1;unfold M_v at h;simp only[ZC,S_v,pX];obtain⟨d,h⟩|⟨d,h⟩:=au h
 ·obtain⟨k,l,h⟩:=ae h;try refine ZF d ?_
  refine aJ (sh:=(fun v=>⟨[(0,.sl 1000000000 0 v.length),(1,.i a),(2,.i b),(6,.i c.1)],[(1000000000,.arr 1 (v.map AV.i))]⟩)) (s:=k) ?_ ?_
  ·replace h:=l;obtain⟨m,g,h⟩:=ae h;try refine ZF d ?_
   first|refine eu (bn (aG (w_n a b c) g ?_)) (fun τ j=>?_)|refine fM (aG (w_n a b c) g ?_) (fun τ j=>?_)
   ·exact ZK (ZA @S_n.eq_1 @OP.eq_1)
   ·cases h;try refine ZF trivial ?_
    refine⟨rfl,Shp.sub j (by decide) (by decide) ?_⟩;exact ZK @OP.eq_1
  ·simp only[ZC,uW];cases h;exact ZL d e
 ·cases h;exact ZL d e
theorem w_ey(a:Int)(b:Int)(c:List Int){r:List Int}(h:NS a b c=some r):OkM Tryz.prog 201 [.sl 1000000000 0 c.length,.i a,.i b] [(1000000000,.arr 1 (c.map AV.i))] (.tup []) ([(1000000000,.arr 1 (r.map AV.i))]):=by
 refine bJ (lr:=[1000000000]) aY Uc rfl rfl ?_;unfold NS at h;simp only[ZC,GO,co];obtain⟨j,d,h⟩:=ae h;try refine ZF trivial ?_
 first|refine eu (bn (aG (w_v a b) d ?_)) (fun τ g=>?_)|refine fM (aG (w_v a b) d ?_) (fun τ g=>?_)
 ·exact ZK (ZA @S_v.eq_1 @Qi.eq_1)
 ·cases h;refine ky g (by decide) ?_ rfl;exact ZK (ZA @co.eq_1 @Qi.eq_1)
def QC(c:Int)(d:Int)(g:Int)(a:List Int)(v:Unit):St:=⟨[(0,.sl 1000000000 0 a.length),(1,.i c),(2,.i d),(3,.i g),(8,.b true),(9,.b true)],[(1000000000,.arr 1 (a.map AV.i))]⟩
def SM(v:Empty):St:=⟨[],[]⟩
theorem w_aw(b:Int)(c:Int)(d:Int)(g:List Int)(j:Unit)(o:Unit⊕(Empty⊕(List Int)))(h:Rz b c d g j=some o):AWP (OkS Tryz.prog) qI (qL [0,1,2,3,8,9] [1000000000] (QC b c d g) (qS (qX 0 [] [] (SM)) (qM co [1000000000] (fun(r:List Int)=>.tup []) (fun(r:List Int)=>[(1000000000,.arr 1 (r.map AV.i))]))) o) (QC b c d g j):=by
 unfold Rz at h;simp only[ZC,QC,qI];obtain⟨a,h⟩|⟨a,h⟩:=au h
 ·obtain⟨m,k,h⟩:=ae h;refine ZF a ?_;refine ZWG a (w_ey _ _ _ k) [1000000000] [] ?_;cases h;exact ZL a @co.eq_1
 ·obtain⟨l,h⟩|⟨l,h⟩:=au h
  ·cases h
  ·cases h
theorem w_hl(b:Int)(c:Int)(d:Int)(a:List Int){r:List Int}(h:RH b c d a=some r):OkM Tryz.prog 171 [.sl 1000000000 0 a.length,.i b,.i c,.i d] [(1000000000,.arr 1 (a.map AV.i))] (.tup []) ([(1000000000,.arr 1 (r.map AV.i))]):=by
 refine bJ (lr:=[1000000000]) aY VE rfl rfl ?_;unfold RH at h;simp only[ZC,My,co];obtain⟨g,j,h⟩:=ae h;try refine ZF trivial ?_
 first|refine nG (o:=g) (bq JP (aG (w_aw b c d a) j ?_)) (fun k hv τ l=>?_) (fun m hv e τ hne hq=>?_)|refine uV (o:=g) JP (aG (w_aw b c d a) j ?_) (fun k hv τ l=>?_) (fun m hv e τ hne hq=>?_)
 ·exact ZK (ZA @QC.eq_1 @SM.eq_1)
 ·exact k.elim
 ·subst hv;simp only[] at h;obtain⟨rfl,p⟩:=hq;cases h;exact p
theorem w_fa(a:List Int){r:List Int}(h:Lj a=some r):OkM Tryz.prog 111 [.sl 1000000000 0 a.length] [(1000000000,.arr 1 (a.map AV.i))] (.tup []) ([(1000000000,.arr 1 (r.map AV.i))]):=by
 refine bJ (lr:=[1000000000]) aY Uk rfl rfl ?_;unfold Lj at h;simp only[ZC,Lx,co];obtain⟨d,b,h⟩:=ae h;refine ZF trivial ?_;refine ZSG trivial (w_ez _ b) ?_;obtain⟨g,c,h⟩:=ae h;refine ZF trivial ?_;refine ZWG trivial (w_hl _ _ _ _ c) [1000000000] [] ?_;cases h;exact ZL trivial @co.eq_1
def S_w(a:Nat)(b:Nat)(c:Int)(v:Int×Int×List Int):St:=⟨[(0,.sl 1000000000 a b),(3,.i v.1),(4,.sl 1000000000 (a+(Int.toNat c)) (b-(Int.toNat c))),(5,.i v.2.1)],[(1000000000,.arr 1 (v.2.2.map AV.i))]⟩
def RT(a:Nat)(b:Nat)(v:Int×List Int):St:=⟨[(0,.sl 1000000000 a b),(3,.i v.1)],[(1000000000,.arr 1 (v.2.map AV.i))]⟩
theorem w_w(a:Nat)(b:Nat)(g:Int)(c:Int×Int×List Int)(o:(Int×Int×List Int)⊕(Int×List Int))(h:M_w a b g c=some o):AWP (OkS Tryz.prog) po (qL [0,3,4,5] [1000000000] (S_w a b g) (qX 2 [0,3] [1000000000] (RT a b)) o) (S_w a b g c):=by
 have e:=ZA @S_w.eq_1 @RT.eq_1;unfold M_w at h;simp only[ZC,S_w,po];obtain⟨d,h⟩|⟨d,h⟩:=au h
 ·obtain⟨x,k,h⟩:=ae h;obtain⟨s,l,h⟩:=ae h;obtain⟨y,m,h⟩:=ae h;obtain⟨z,p,h⟩:=ae h;obtain⟨j,h⟩|⟨j,h⟩:=au h
  ·obtain⟨a1,t,h⟩:=ae h;obtain⟨b1,u,h⟩:=ae h;obtain⟨v,q,h⟩:=bl h;have w:(c.2.2.map AV.i).set (a+(Int.toNat c.1)) (.i s)=v.map AV.i:=by rw[<-q,List.map_set]
   cases h;exact ZL (ZA d (ZA (bf k) (ZA l (ZA (bf m) (ZA p (ZA j (ZA (bf t) (ZA u w)))))))) (ZA e q.symm)
  ·cases h;exact ZL (ZA d (ZA (bf k) (ZA l (ZA (bf m) (ZA p j))))) e
 ·cases h;exact ZL d e
def S_z(a:Nat)(b:Nat)(c:List Int)(v:Int):St:=⟨[(0,.sl 1000000000 a b),(3,.i v)],[(1000000000,.arr 1 (c.map AV.i))]⟩
def QD(a:Nat)(b:Nat)(c:List Int)(v:Unit):St:=⟨[(0,.sl 1000000000 a b)],[(1000000000,.arr 1 (c.map AV.i))]⟩
theorem w_z(a:Nat)(b:Nat)(c:List Int)(j:Int)(o:Int⊕(Unit⊕(Nat×Nat×List Int)))(h:M_z a b c j=some o):AWP (OkS Tryz.prog) qE (qL [0,3] [1000000000] (S_z a b c) (qS (qX 0 [0] [1000000000] (QD a b c)) (qM V91 [1000000000] (fun(r:Nat×Nat×List Int)=>.sl 1000000000 r.1 r.2.1) (fun(r:Nat×Nat×List Int)=>[(1000000000,.arr 1 (r.2.2.map AV.i))]))) o) (S_z a b c j):=by
 have e:=ZA @S_z.eq_1 @QD.eq_1;unfold M_z at h;simp only[ZC,S_z,qE];obtain⟨d,h⟩|⟨d,h⟩:=au h
 ·obtain⟨a1,l,h⟩:=ae h;obtain⟨b1,m,h⟩:=ae h;obtain⟨c1,p,h⟩:=ae h;obtain⟨d1,q,h⟩:=ae h;obtain⟨k,h⟩|⟨k,h⟩:=au h
  ·obtain⟨g1,v,h⟩:=ae h;obtain⟨g,w,h⟩:=ae h;have f:=ZA d (ZA (bf l) (ZA m (ZA (bf p) (ZA q (ZA k (bf v))))));try refine ZF f ?_
   refine aJ (bn (aG (w_w a b j) w ?_)) ?_
   ·exact ZK (ZA @S_w.eq_1 @RT.eq_1)
   ·simp only[ZC,RT,vD];obtain⟨i1,x,h⟩:=ae h;obtain⟨s,t,h⟩:=bl h;have u:dZ (g.2.map AV.i) (a+(Int.toNat g.1)) (List.replicate (b-(Int.toNat g.1)) (.i 0:AV))=s.map AV.i:=by rw[<-t,<-Kk]<;>simp[List.map_take]
    try simp only[Int.toNat_natCast] at u
    have y:s.length=g.2.length:=by rw[<-t];exact oq _ _ _
    obtain⟨j1,z,h⟩:=ae h;cases h;exact ZL (ZA f (ZA (bf x) (ZA u (bf z)))) (ZA @V91.eq_1 y)
  ·cases h;exact ZL (ZA d (ZA (bf l) (ZA m (ZA (bf p) (ZA q k))))) e
 ·cases h;exact ZL d e
theorem w_fk(b:Nat)(c:Nat)(d:List Int){r:Nat×Nat×List Int}(h:Ks b c d=some r):OkM Tryz.prog 112 [.sl 1000000000 b c] [(1000000000,.arr 1 (d.map AV.i))] (.sl 1000000000 r.1 r.2.1) ([(1000000000,.arr 1 (r.2.2.map AV.i))]):=by
 refine bJ (lr:=[1000000000]) aY Wa rfl rfl ?_;unfold Ks at h;simp only[ZC,Iz,V91];obtain⟨a,h⟩|⟨a,h⟩:=au h
 ·cases h;exact ZL a @V91.eq_1
 ·obtain⟨g,j,h⟩:=ae h;try refine ZF a ?_
  refine bj (o:=g) (bq JP (aG (w_z b c d) j ?_)) (fun l hv=>?_) (fun m hv e τ hne hq=>?_)
  ·exact ZK (ZA @S_z.eq_1 @QD.eq_1)
  ·subst hv;simp only[] at h;simp only[ZC,QD,vY];cases h;exact ZL a @V91.eq_1
  ·subst hv;simp only[] at h;obtain⟨rfl,k⟩:=hq;cases h;exact k
def NH(a:List Int)(b:List Int)(v:Int×List Int):St:=⟨[(1,.lst .o 1 (b.map AV.i)),(5,.sl 5 0 v.2.length),(9,.lst .o 1 (a.map AV.i)),(10,.i (a.length:Int)),(11,.i v.1)],[(5,.arr 1 (v.2.map AV.i))]⟩
theorem w_ay(c:List Int)(d:List Int)(a:Int×List Int)(o:(Int×List Int)⊕(List Int))(h:zU c d a=some o):AWP (OkS Tryz.prog) Mw (qL [1,5,9,10,11] [5] (NH c d) (qX 0 [5] [5] (oP)) o) (NH c d a):=by
 have e:=ZA @NH.eq_1 @oP.eq_1;unfold zU at h;simp only[ZC,NH,Mw];obtain⟨g,h⟩|⟨g,h⟩:=au h
 ·obtain⟨t,u,h⟩:=ae h;obtain⟨z,v,h⟩:=ae h;have f:=ZA g (aP u);refine ZF f ?_;refine ZSG f (TZ _ _ v) ?_;obtain⟨j,h⟩|⟨j,h⟩:=au h
  ·obtain⟨k,b,h⟩:=bl h;have w:Row.arr 1 [(.i t:AV)]=Row.arr 1 (k.map AV.i):=by rw[<-b];rfl
   have m:k.length=1:=by rw[<-b];rfl
   obtain⟨a1,x,h⟩:=ae h;have p:=bf x;obtain⟨q,l,h⟩:=bl h;have y:a.2.map AV.i++k.map AV.i=q.map AV.i:=by rw[<-l,List.map_append]
   have s:a.2.length+1=q.length:=by simp[<-b,<-l]<;>omega
   rw[s] at p;cases h;exact ZL (ZA f (ZA j (ZA w (ZA m (ZA p (ZA y s)))))) (ZA e (ZA b.symm (ZA l.symm m)))
  ·cases h;exact ZL (ZA f j) e
 ·cases h;exact ZL g e
theorem PB(a:List Int)(b:List Int){r:List Int}(h:wv a b=some r):Ok Tryz.prog 68 [.lst .o 1 (a.map AV.i),.lst .o 1 (b.map AV.i)] (.lst .u 1 (r.map AV.i)):=by
 refine ax aY m68 rfl ?_;unfold wv at h;simp only[ZC,A68,V85,aB];obtain⟨p,d,h⟩:=ae h;try refine ZF trivial ?_
 refine aJ (bn (aG (w_ay a b) d ?_)) ?_
 ·exact ZK (ZA @NH.eq_1 @oP.eq_1)
 ·simp only[ZC,oP,TL];obtain⟨q,g,h⟩:=ae h;refine ZF trivial ?_;refine ZWG trivial (w_fa _ g) [1000000000] [] ?_;obtain⟨c,j,h⟩:=ae h;refine ZF trivial ?_;refine ZWG trivial (w_fk _ _ _ j) [1000000000] [] ?_;obtain⟨k,l,h⟩:=bl h;have m:sub (c.2.2.map AV.i) c.1 c.2.1=k.map AV.i:=by rw[dy,l]
  cases h;exact ZL m @V85.eq_1
theorem w_di(a:aq)(c:aq){r:Bool}(h:DJ a c=some r):Ok Tryz.prog 131 [.agg [.i a.Id,.i a.Route.Start,.lst .o 1 (a.Route.Fibers.map AV.i),.i a.Block.First,.i a.Block.Count],.agg [.i c.Id,.i c.Route.Start,.lst .o 1 (c.Route.Fibers.map AV.i),.i c.Block.First,.i c.Block.Count]] (.b r):=by
 refine ax aY m131 rfl ?_;unfold DJ at h;simp only[ZC,A131,V85,aB];obtain⟨l,g,h⟩:=ae h;refine ZF trivial ?_;refine ZSG trivial (RX _ g) ?_;obtain⟨m,j,h⟩:=ae h;refine ZF trivial ?_;refine ZSG trivial (RX _ j) ?_;obtain⟨d,h⟩|⟨d,h⟩:=au h
 ·obtain⟨p,k,h⟩:=ae h;refine ZF d ?_;refine ZUG d (PB _ _ k) ?_;cases h;exact ZL d @V85.eq_1
 ·cases h;exact ZL d @V85.eq_1
theorem w_dj(a:aq)(p1Z0:aq){r:Bool}(h:CF a p1Z0=some r):Ok Tryz.prog 130 [.agg [.i a.Id,.i a.Route.Start,.lst .o 1 (a.Route.Fibers.map AV.i),.i a.Block.First,.i a.Block.Count],.bp .o (.agg [.i p1Z0.Id,.i p1Z0.Route.Start,.lst .o 1 (p1Z0.Route.Fibers.map AV.i),.i p1Z0.Block.First,.i p1Z0.Block.Count]) 0] (.b r):=by
 refine ax aY m130 rfl ?_;unfold CF at h;simp only[ZC,A130,lz,aB];obtain⟨d,c,h⟩:=ae h;refine ZF trivial ?_;refine ZSG trivial (w_di _ _ c) ?_;cases h;exact ZL trivial @lz.eq_1
def Mf(a:List aq)(F_fZ0:Nat)(C_fZ0:List AV)(v:Int):St:=⟨[(0,.lst .o 5 (a.map (ai .o))),(1,.fn F_fZ0 C_fZ0),(7,.i (a.length:Int)),(8,.i v)],[]⟩
theorem w_aq(c:List aq)(j:aq->Option Bool)(F_fZ0:Nat)(C_fZ0:List AV)(hC_fZ0:pE C_fZ0)(hf_fZ0:∀(x0:aq)(r:Bool),j x0=some r->Ok Tryz.prog F_fZ0 ((.agg [.i x0.Id,.i x0.Route.Start,.lst .o 1 (x0.Route.Fibers.map AV.i),.i x0.Block.First,.i x0.Block.Count])::C_fZ0) (.b r))(k:Int)(o:Int⊕(Unit⊕Int))(h:tx c j k=some o):AWP (OkS Tryz.prog) yN (qL [0,1,7,8] [] (Mf c F_fZ0 C_fZ0) (qS (qX 0 [] [] (bN)) (qR V85 (fun r=>.i r))) o) (Mf c F_fZ0 C_fZ0 k):=by
 have e:=ZA @Mf.eq_1 @bN.eq_1;unfold tx at h;simp only[ZC,Mf,yN];obtain⟨a,h⟩|⟨a,h⟩:=au h
 ·obtain⟨m,d,h⟩:=ae h;obtain⟨p,l,h⟩:=ae h;have f:=ZA a (aP d);refine ZF f ?_;have f:=ZA f hC_fZ0.1;refine ZSG f (hf_fZ0 _ _ l) ?_;obtain⟨g,h⟩|⟨g,h⟩:=au h
  ·cases h;exact ZL (ZA a (ZA (aP d) g)) (ZA @V85.eq_1 (ZA hC_fZ0.2 ((du hC_fZ0))))
  ·cases h;exact ZL (ZA a (ZA (aP d) g)) (ZA e (ZA hC_fZ0.2 ((du hC_fZ0))))
 ·cases h;exact ZL a (ZA e (ZA hC_fZ0.2 ((du hC_fZ0))))
theorem VV(a:List aq)(c:aq->Option Bool){r:Int}(h:vF a c=some r)(F_fZ0:Nat)(C_fZ0:List AV)(hC_fZ0:pE C_fZ0)(hf_fZ0:∀(x0:aq)(r:Bool),c x0=some r->Ok Tryz.prog F_fZ0 ((.agg [.i x0.Id,.i x0.Route.Start,.lst .o 1 (x0.Route.Fibers.map AV.i),.i x0.Block.First,.i x0.Block.Count])::C_fZ0) (.b r)):Ok Tryz.prog 133 [.lst .o 5 (a.map (ai .o)),.fn F_fZ0 C_fZ0] (.i r):=by
 refine ax aY m133 rfl ?_;unfold vF at h;simp only[ZC,A133,V85,aB];obtain⟨d,g,h⟩:=ae h;try refine ZF trivial ?_
 refine bj (o:=d) (bq cy (aG (w_aq a c F_fZ0 C_fZ0 hC_fZ0 hf_fZ0) g ?_)) (fun k hv=>?_) (fun l hv e τ hne hq=>?_)
 ·exact ZK (ZA @Mf.eq_1 (ZA @bN.eq_1 (ZA hC_fZ0.2 ((du hC_fZ0)))))
 ·subst hv;simp only[] at h;simp only[ZC,bN,Lh];cases h;exact ZL trivial (ZA @V85.eq_1 (ZA hC_fZ0.2 ((du hC_fZ0))))
 ·subst hv;simp only[] at h;obtain⟨rfl,j⟩:=hq;cases h;exact j
theorem Qq(a:List aq)(c:aq->Option Bool){r:Bool}(h:tN a c=some r)(F_fZ0:Nat)(C_fZ0:List AV)(hC_fZ0:pE C_fZ0)(hf_fZ0:∀(x0:aq)(r:Bool),c x0=some r->Ok Tryz.prog F_fZ0 ((.agg [.i x0.Id,.i x0.Route.Start,.lst .o 1 (x0.Route.Fibers.map AV.i),.i x0.Block.First,.i x0.Block.Count])::C_fZ0) (.b r)):Ok Tryz.prog 65 [.lst .o 5 (a.map (ai .o)),.fn F_fZ0 C_fZ0] (.b r):=by
 refine ax aY m65 rfl ?_;unfold tN at h;simp only[ZC,A65,V85,aB];obtain⟨g,d,h⟩:=ae h;refine ZF trivial ?_;refine ZSG hC_fZ0.1 (VV _ _ d F_fZ0 C_fZ0 hC_fZ0 hf_fZ0) ?_;cases h;exact ZL trivial (ZA @V85.eq_1 (ZA hC_fZ0.2 ((du hC_fZ0))))
def yP(a:aK)(v:Int):St:=⟨[(1,.pt 1 0 0),(16,.lst .o 5 (a.Lights.map (ai .o))),(17,.i (a.Lights.length:Int)),(18,.i v)],[(1,.var (.agg [.lst .o 1 (a.Network.Nodes.map AV.z),.lst .o 4 (a.Network.Fibers.map (ah .o)),.lst .o 5 (a.Lights.map (ai .o))]))]⟩
theorem w_au(g:aK)(q:Int)(o:Int⊕(Unit⊕Bool))(h:Cj g q=some o):AWP (OkS Tryz.prog) JO (qL [1,16,17,18] [1] (yP g) (qS (qX 0 [] [] (bN)) (qR V91 (fun r=>.b r))) o) (yP g q):=by
 unfold Cj at h;simp only[ZC,yP,JO];obtain⟨j,h⟩|⟨j,h⟩:=au h
 ·obtain⟨a,t,h⟩:=ae h;obtain⟨m1,u,h⟩:=ae h;have f:=ZA j (aP t);refine ZF f ?_;refine ZSG f (w_ff _ _ u) ?_;obtain⟨c,h⟩|⟨c,h⟩:=au h
  ·cases h;exact ZL (ZA f c) @V91.eq_1
  ·obtain⟨d,h⟩|⟨d,h⟩:=au h
   ·obtain⟨p1,s,h⟩:=ae h;obtain⟨l,h⟩|⟨l,h⟩:=au h
    ·cases h;exact ZL (ZA f (ZA c (ZA d (ZA (aP s) l)))) @V91.eq_1
    ·obtain⟨q1,v,h⟩:=ae h;obtain⟨w,x,y,z,a1⟩:=JZ (ai .o) v;obtain⟨s1,b1,h⟩:=ae h;have f:=ZA f (ZA c (ZA d (ZA (aP s) (ZA l (ZA w (ZA x (ZA y (ZA z a1))))))));refine ZF f ?_;refine ZSG f (Qq _ _ b1 130 [.bp .o (.agg [.i a.Id,.i a.Route.Start,.lst .o 1 (a.Route.Fibers.map AV.i),.i a.Block.First,.i a.Block.Count]) 0] ⟨fun ρ k=>by simp only[VS1,VS2,VS3,VS4,VS5,VS6,VT1,VT2,bw,bx,decide_true,decide_false,List.nodup_nil,List.nodup_cons,cP,cO,cQ,ne_eq,not_false_eq_true,Int.reduceEq,Int.reduceNe,true_and,false_and,Nat.reduceSub,Nat.reduceMul,↓reduceIte,reduceCtorEq,Nat.reduceEqDiff,Nat.reduceAdd,Nat.reduceLeDiff,Int.reduceLE],by simp[aM,AV.ments]⟩ (fun _ _ h=>w_dj _ _ h)) ?_;obtain⟨m,h⟩|⟨m,h⟩:=au h
     ·cases h;exact ZL (ZA f m) @V91.eq_1
     ·cases h;exact ZL (ZA f m) (ZA @yP.eq_1 @bN.eq_1)
   ·obtain⟨t1,c1,h⟩:=ae h;obtain⟨d1,g1,i1,j1,k1⟩:=JZ (ai .o) c1;obtain⟨u1,l1,h⟩:=ae h;have f:=ZA f (ZA c (ZA d (ZA d1 (ZA g1 (ZA i1 (ZA j1 k1))))));refine ZF f ?_;refine ZSG f (Qq _ _ l1 130 [.bp .o (.agg [.i a.Id,.i a.Route.Start,.lst .o 1 (a.Route.Fibers.map AV.i),.i a.Block.First,.i a.Block.Count]) 0] ⟨fun ρ k=>by simp only[VS1,VS2,VS3,VS4,VS5,VS6,VT1,VT2,bw,bx,decide_true,decide_false,List.nodup_nil,List.nodup_cons,cP,cO,cQ,ne_eq,not_false_eq_true,Int.reduceEq,Int.reduceNe,true_and,false_and,Nat.reduceSub,Nat.reduceMul,↓reduceIte,reduceCtorEq,Nat.reduceEqDiff,Nat.reduceAdd,Nat.reduceLeDiff,Int.reduceLE],by simp[aM,AV.ments]⟩ (fun _ _ h=>w_dj _ _ h)) ?_;obtain⟨p,h⟩|⟨p,h⟩:=au h
    ·cases h;exact ZL (ZA f p) @V91.eq_1
    ·cases h;exact ZL (ZA f p) (ZA @yP.eq_1 @bN.eq_1)
 ·cases h;exact ZL j (ZA @yP.eq_1 @bN.eq_1)
theorem w_dc(a:aK){r:Bool}(h:zi a=some r):Ok Tryz.prog 63 [.agg [.lst .o 1 (a.Network.Nodes.map AV.z),.lst .o 4 (a.Network.Fibers.map (ah .o)),.lst .o 5 (a.Lights.map (ai .o))]] (.b r):=by
 refine ax aY m63 rfl ?_;unfold zi at h;simp only[ZC,A63,V91,aB];obtain⟨g,i,h⟩:=ae h;try refine ZF trivial ?_
 refine aJ (sh:=(fun v=>⟨[(1,.pt 1 0 0),(14,.b v)],[(1,.var (.agg [.lst .o 1 (a.Network.Nodes.map AV.z),.lst .o 4 (a.Network.Fibers.map (ah .o)),.lst .o 5 (a.Lights.map (ai .o))]))]⟩)) (s:=g) ?_ ?_
 ·replace h:=i;obtain⟨p,j,h⟩:=ae h;refine ZF trivial ?_;refine ZSG trivial (w_dk _ j) ?_;obtain⟨d,h⟩|⟨d,h⟩:=au h
  ·cases h;exact ZL d trivial
  ·cases h;exact ZL d trivial
 ·simp only[ZC,SP];obtain⟨c,h⟩|⟨c,h⟩:=au h
  ·cases h;exact ZL c @V91.eq_1
  ·obtain⟨k,l,h⟩:=ae h;try refine ZF c ?_
   refine bj (o:=k) (bq cy (aG (w_au a) l ?_)) (fun q hv=>?_) (fun t hv e τ hne hq=>?_)
   ·exact ZK (ZA @yP.eq_1 @bN.eq_1)
   ·subst hv;simp only[] at h;simp only[ZC,bN,SV];cases h;exact ZL c @V91.eq_1
   ·subst hv;simp only[] at h;obtain⟨rfl,m⟩:=hq;cases h;exact m
def FV(a:List Int)(b:Int)(v:Int):St:=⟨[(0,.lst .o 1 (a.map AV.i)),(1,.i b),(7,.lst .o 1 (a.map AV.i)),(8,.i (a.length:Int)),(9,.i v)],[]⟩
theorem w_bg(d:List Int)(g:Int)(k:Int)(o:Int⊕(Unit⊕Bool))(h:Eo d g k=some o):AWP (OkS Tryz.prog) Nj (qL [0,1,7,8,9] [] (FV d g) (qS (qX 0 [] [] (bN)) (qR V85 (fun r=>.b r))) o) (FV d g k):=by
 have e:=ZA @FV.eq_1 @bN.eq_1;unfold Eo at h;simp only[ZC,FV,Nj];obtain⟨i,h⟩|⟨i,h⟩:=au h
 ·obtain⟨q,m,h⟩:=ae h;obtain⟨s,p,h⟩:=ae h;have f:=ZA i (aP m);refine ZF f ?_;refine ZSG f (w_h _ _ _ p) ?_;obtain⟨a,h⟩|⟨a,h⟩:=au h
  ·cases h;exact ZL (ZA f a) @V85.eq_1
  ·obtain⟨c,h⟩|⟨c,h⟩:=au h
   ·obtain⟨t,l,h⟩:=ae h;obtain⟨j,h⟩|⟨j,h⟩:=au h
    ·cases h;exact ZL (ZA f (ZA a (ZA c (ZA (aP l) j)))) @V85.eq_1
    ·cases h;exact ZL (ZA f (ZA a (ZA c (ZA (aP l) j)))) e
   ·cases h;exact ZL (ZA f (ZA a c)) e
 ·cases h;exact ZL i e
theorem w_fb(a:List Int)(c:Int){r:Bool}(h:JR a c=some r):Ok Tryz.prog 64 [.lst .o 1 (a.map AV.i),.i c] (.b r):=by
 refine ax aY m64 rfl ?_;unfold JR at h;simp only[ZC,A64,V85,aB];obtain⟨d,g,h⟩:=ae h;try refine ZF trivial ?_
 refine bj (o:=d) (bq cy (aG (w_bg a c) g ?_)) (fun k hv=>?_) (fun l hv e τ hne hq=>?_)
 ·exact ZK (ZA @FV.eq_1 @bN.eq_1)
 ·subst hv;simp only[] at h;simp only[ZC,bN,Ta];cases h;exact ZL trivial @V85.eq_1
 ·subst hv;simp only[] at h;obtain⟨rfl,j⟩:=hq;cases h;exact j
theorem w_hp(a:aq)(p1Z0:Int){r:Bool}(h:Po a p1Z0=some r):Ok Tryz.prog 134 [.agg [.i a.Id,.i a.Route.Start,.lst .o 1 (a.Route.Fibers.map AV.i),.i a.Block.First,.i a.Block.Count],.bp .o (.i p1Z0) 0] (.b r):=by
 refine ax aY m134 rfl ?_;unfold Po at h;simp only[ZC,A134,lz,aB];cases h;exact ZL trivial @lz.eq_1
theorem w_dm(a:aj)(b:Int){r:Int}(h:Fu a b=some r):Ok Tryz.prog 67 [.agg [.lst .o 1 (a.Plan.Network.Nodes.map AV.z),.lst .o 4 (a.Plan.Network.Fibers.map (ah .o)),.lst .o 5 (a.Plan.Lights.map (ai .o)),.lst .o 5 (a.Home.map (ai .o)),.lst .o 1 (a.Down.map AV.i)],.i b] (.i r):=by
 refine ax aY m67 rfl ?_;unfold Fu at h;simp only[ZC,A67,V85,aB];obtain⟨d,c,h⟩:=ae h;refine ZF trivial ?_;refine ZSG trivial (VV _ _ c 134 [.bp .o (.i b) 0] ⟨fun ρ k=>by simp only[VS1,VS2,VS3,VS4,VS5,VS6,VT1,VT2,bw,bx,decide_true,decide_false,List.nodup_nil,List.nodup_cons,cP,cO,cQ,ne_eq,not_false_eq_true,Int.reduceEq,Int.reduceNe,true_and,false_and,Nat.reduceSub,Nat.reduceMul,↓reduceIte,reduceCtorEq,Nat.reduceEqDiff,Nat.reduceAdd,Nat.reduceLeDiff,Int.reduceLE],by simp[aM,AV.ments]⟩ (fun _ _ h=>w_hp _ _ h)) ?_;cases h;exact ZL trivial @V85.eq_1
theorem Vy(a:af)(b:ar){r:Int}(h:xO a b=some r):Ok Tryz.prog 69 [.agg [.lst .o 1 (a.Nodes.map AV.z),.lst .o 4 (a.Fibers.map (ah .o))],.agg [.i b.Start,.lst .o 1 (b.Fibers.map AV.i)]] (.i r):=by
 refine ax aY m69 rfl ?_;unfold xO at h;simp only[ZC,A69,V85,aB];obtain⟨j,c,h⟩:=ae h;refine ZF trivial ?_;refine ZUG trivial (w_dr _ _ c) ?_;obtain⟨k,d,h⟩:=ae h;obtain⟨l,g,h⟩:=ae h;cases h;exact ZL (ZA (bf d) g) @V85.eq_1
theorem w_fo(a:aq)(p1Z0:aj)(p2Z0:af){r:Bool}(h:Kb a p1Z0 p2Z0=some r):Ok Tryz.prog 66 [.agg [.i a.Id,.i a.Route.Start,.lst .o 1 (a.Route.Fibers.map AV.i),.i a.Block.First,.i a.Block.Count],.bp .o (.agg [.lst .o 1 (p1Z0.Plan.Network.Nodes.map AV.z),.lst .o 4 (p1Z0.Plan.Network.Fibers.map (ah .o)),.lst .o 5 (p1Z0.Plan.Lights.map (ai .o)),.lst .o 5 (p1Z0.Home.map (ai .o)),.lst .o 1 (p1Z0.Down.map AV.i)]) 0,.bp .o (.agg [.lst .o 1 (p2Z0.Nodes.map AV.z),.lst .o 4 (p2Z0.Fibers.map (ah .o))]) 0] (.b r):=by
 refine ax aY m66 rfl ?_;unfold Kb at h;simp only[ZC,A66,V85,aB];obtain⟨l,m,h⟩:=ae h;refine ZF trivial ?_;refine ZSG trivial (w_dm _ _ m) ?_;obtain⟨p,q,h⟩:=ae h;try refine ZF trivial ?_
 refine aJ (sh:=(fun v=>⟨[(1,.bp .o (.agg [.lst .o 1 (p1Z0.Plan.Network.Nodes.map AV.z),.lst .o 4 (p1Z0.Plan.Network.Fibers.map (ah .o)),.lst .o 5 (p1Z0.Plan.Lights.map (ai .o)),.lst .o 5 (p1Z0.Home.map (ai .o)),.lst .o 1 (p1Z0.Down.map AV.i)]) 0),(2,.bp .o (.agg [.lst .o 1 (p2Z0.Nodes.map AV.z),.lst .o 4 (p2Z0.Fibers.map (ah .o))]) 0),(3,.pt 3 0 0),(5,.i l),(22,.b v)],[(3,.var (.agg [.i a.Id,.i a.Route.Start,.lst .o 1 (a.Route.Fibers.map AV.i),.i a.Block.First,.i a.Block.Count]))]⟩)) (s:=p) ?_ ?_
 ·replace h:=q;obtain⟨c,h⟩|⟨c,h⟩:=au h
  ·cases h;exact ZL c trivial
  ·obtain⟨x,t,h⟩:=ae h;refine ZF c ?_;refine ZUG c (PB _ _ t) ?_;cases h;exact ZL c trivial
 ·simp only[ZC,Tb];obtain⟨d,h⟩|⟨d,h⟩:=au h
  ·cases h;exact ZL d @V85.eq_1
  ·obtain⟨y,k,h⟩:=ae h;obtain⟨g,h⟩|⟨g,h⟩:=au h
   ·cases h;exact ZL (ZA d (ZA (aP k) g)) @V85.eq_1
   ·obtain⟨a1,u,h⟩:=ae h;have f:=ZA d (ZA (aP k) g);refine ZF f ?_;refine ZSG f (Vy _ _ u) ?_;obtain⟨b1,w,h⟩:=ae h;refine ZF f ?_;refine ZSG f (Vy _ _ w) ?_;obtain⟨j,h⟩|⟨j,h⟩:=au h
    ·cases h;exact ZL (ZA f j) @V85.eq_1
    ·cases h;exact ZL (ZA f j) @V85.eq_1
theorem w_fp(a:aj){r:Bool}(h:HD a=some r):Ok Tryz.prog 16 [.agg [.lst .o 1 (a.Plan.Network.Nodes.map AV.z),.lst .o 4 (a.Plan.Network.Fibers.map (ah .o)),.lst .o 5 (a.Plan.Lights.map (ai .o)),.lst .o 5 (a.Home.map (ai .o)),.lst .o 1 (a.Down.map AV.i)]] (.b r):=by
 refine ax aY m16 rfl ?_;unfold HD at h;simp only[ZC,A16,V91,aB];obtain⟨j,l,h⟩:=ae h;try refine ZF trivial ?_
 refine aJ (sh:=(fun v=>⟨[(1,.pt 1 0 0),(3,.pt 3 0 0),(27,.b v)],[(1,.var (.agg [.lst .o 1 (a.Plan.Network.Nodes.map AV.z),.lst .o 4 (a.Plan.Network.Fibers.map (ah .o)),.lst .o 5 (a.Plan.Lights.map (ai .o)),.lst .o 5 (a.Home.map (ai .o)),.lst .o 1 (a.Down.map AV.i)])),(3,.var (.agg [.lst .o 1 (a.Plan.Network.Nodes.map AV.z),.lst .o 4 (a.Plan.Network.Fibers.map (ah .o))]))]⟩)) (s:=j) ?_ ?_
 ·replace h:=l;obtain⟨u,m,h⟩:=ae h;refine ZF trivial ?_;refine ZSG trivial (w_dc _ m) ?_;obtain⟨c,h⟩|⟨c,h⟩:=au h
  ·cases h;exact ZL c trivial
  ·obtain⟨w,p,h⟩:=ae h;refine ZF c ?_;refine ZSG c (w_dc _ p) ?_;obtain⟨g,h⟩|⟨g,h⟩:=au h
   ·cases h;exact ZL (ZA c g) trivial
   ·obtain⟨x,q,h⟩:=ae h;have f:=ZA c g;refine ZF f ?_;refine ZSG f (w_fb _ _ q) ?_;cases h;exact ZL f trivial
 ·simp only[ZC,TI];obtain⟨d,h⟩|⟨d,h⟩:=au h
  ·cases h;exact ZL d @V91.eq_1
  ·obtain⟨y,t,h⟩:=ae h;refine ZF d ?_;refine ZSG d (Qq _ _ t 66 [.bp .o (.agg [.lst .o 1 (a.Plan.Network.Nodes.map AV.z),.lst .o 4 (a.Plan.Network.Fibers.map (ah .o)),.lst .o 5 (a.Plan.Lights.map (ai .o)),.lst .o 5 (a.Home.map (ai .o)),.lst .o 1 (a.Down.map AV.i)]) 0,.bp .o (.agg [.lst .o 1 (a.Plan.Network.Nodes.map AV.z),.lst .o 4 (a.Plan.Network.Fibers.map (ah .o))]) 0] ⟨fun ρ k=>by simp only[VS1,VS2,VS3,VS4,VS5,VS6,VT1,VT2,bw,bx,decide_true,decide_false,List.nodup_nil,List.nodup_cons,cP,cO,cQ,ne_eq,not_false_eq_true,Int.reduceEq,Int.reduceNe,true_and,false_and,Nat.reduceSub,Nat.reduceMul,↓reduceIte,reduceCtorEq,Nat.reduceEqDiff,Nat.reduceAdd,Nat.reduceLeDiff,Int.reduceLE],by simp[aM,AV.ments]⟩ (fun _ _ h=>w_fo _ _ _ h)) ?_;cases h;exact ZL d @V91.eq_1
theorem w_hq(a:aq)(p1Z0:Int){r:Bool}(h:Qg a p1Z0=some r):Ok Tryz.prog 186 [.agg [.i a.Id,.i a.Route.Start,.lst .o 1 (a.Route.Fibers.map AV.i),.i a.Block.First,.i a.Block.Count],.bp .o (.i p1Z0) 0] (.b r):=by
 refine ax aY m186 rfl ?_;unfold Qg at h;simp only[ZC,A186,lz,aB];cases h;exact ZL trivial @lz.eq_1
theorem w_fq(a:aK)(b:Int){r:Int}(h:MO a b=some r):Ok Tryz.prog 137 [.agg [.lst .o 1 (a.Network.Nodes.map AV.z),.lst .o 4 (a.Network.Fibers.map (ah .o)),.lst .o 5 (a.Lights.map (ai .o))],.i b] (.i r):=by
 refine ax aY m137 rfl ?_;unfold MO at h;simp only[ZC,A137,V85,aB];obtain⟨d,c,h⟩:=ae h;refine ZF trivial ?_;refine ZSG trivial (VV _ _ c 186 [.bp .o (.i b) 0] ⟨fun ρ k=>by simp only[VS1,VS2,VS3,VS4,VS5,VS6,VT1,VT2,bw,bx,decide_true,decide_false,List.nodup_nil,List.nodup_cons,cP,cO,cQ,ne_eq,not_false_eq_true,Int.reduceEq,Int.reduceNe,true_and,false_and,Nat.reduceSub,Nat.reduceMul,↓reduceIte,reduceCtorEq,Nat.reduceEqDiff,Nat.reduceAdd,Nat.reduceLeDiff,Int.reduceLE],by simp[aM,AV.ments]⟩ (fun _ _ h=>w_hq _ _ h)) ?_;cases h;exact ZL trivial @V85.eq_1
def Oj(a:aj)(v:Int×List Int):St:=⟨[(1,.pt 1 0 0),(3,.sl 3 0 v.2.length),(8,.lst .o 5 (a.Home.map (ai .o))),(9,.i (a.Home.length:Int)),(10,.i v.1)],[(1,.var (.agg [.lst .o 1 (a.Plan.Network.Nodes.map AV.z),.lst .o 4 (a.Plan.Network.Fibers.map (ah .o)),.lst .o 5 (a.Plan.Lights.map (ai .o)),.lst .o 5 (a.Home.map (ai .o)),.lst .o 1 (a.Down.map AV.i)])),(3,.arr 1 (v.2.map AV.i))]⟩
theorem w_bp(c:aj)(a:Int×List Int)(o:(Int×List Int)⊕(List Int))(h:EK c a=some o):AWP (OkS Tryz.prog) JM (qL [1,3,8,9,10] [1,3] (Oj c) (qX 0 [3] [3] (oB)) o) (Oj c a):=by
 have e:=ZA @Oj.eq_1 @oB.eq_1;unfold EK at h;simp only[ZC,Oj,JM];obtain⟨d,h⟩|⟨d,h⟩:=au h
 ·obtain⟨s,t,h⟩:=ae h;obtain⟨y,u,h⟩:=ae h;have f:=ZA d (aP t);refine ZF f ?_;refine ZSG f (w_fq _ _ u) ?_;obtain⟨g,h⟩|⟨g,h⟩:=au h
  ·obtain⟨j,b,h⟩:=bl h;have v:Row.arr 1 [(.i s.Id:AV)]=Row.arr 1 (j.map AV.i):=by rw[<-b];rfl
   have l:j.length=1:=by rw[<-b];rfl
   obtain⟨z,w,h⟩:=ae h;have m:=bf w;obtain⟨p,k,h⟩:=bl h;have x:a.2.map AV.i++j.map AV.i=p.map AV.i:=by rw[<-k,List.map_append]
   have q:a.2.length+1=p.length:=by simp[<-b,<-k]<;>omega
   rw[q] at m;cases h;exact ZL (ZA f (ZA g (ZA v (ZA l (ZA m (ZA x q)))))) (ZA e (ZA b.symm (ZA k.symm l)))
  ·cases h;exact ZL (ZA f g) e
 ·cases h;exact ZL d e
theorem w_fr(a:aj){r:List Int}(h:Oh a=some r):Ok Tryz.prog 72 [.agg [.lst .o 1 (a.Plan.Network.Nodes.map AV.z),.lst .o 4 (a.Plan.Network.Fibers.map (ah .o)),.lst .o 5 (a.Plan.Lights.map (ai .o)),.lst .o 5 (a.Home.map (ai .o)),.lst .o 1 (a.Down.map AV.i)]] (.lst .u 1 (r.map AV.i)):=by
 refine ax aY m72 rfl ?_;unfold Oh at h;simp only[ZC,A72,V91,aB];obtain⟨c,b,h⟩:=ae h;try refine ZF trivial ?_
 refine aJ (bn (aG (w_bp a) b ?_)) ?_
 ·exact ZK (ZA @Oj.eq_1 @oB.eq_1)
 ·simp only[ZC,oB,Tc];cases h;exact ZL trivial @V91.eq_1
theorem w_hr(a:af){r:af}(h:Qu a=some r):Ok Tryz.prog 157 [.agg [.lst .o 1 (a.Nodes.map AV.z),.lst .o 4 (a.Fibers.map (ah .o))]] (.agg [.lst .u 1 (r.Nodes.map AV.z),.lst .u 4 (r.Fibers.map (ah .u))]):=by
 refine ax aY m157 rfl ?_;unfold Qu at h;simp only[ZC,A157,V37,aB];obtain⟨d,b,h⟩:=ae h;obtain⟨g,c,h⟩:=ae h;cases h;exact ZL (ZA (bf b) (bf c)) @V37.eq_1
theorem w_dn(a:ar){r:ar}(h:Cb a=some r):Ok Tryz.prog 108 [.agg [.i a.Start,.lst .o 1 (a.Fibers.map AV.i)]] (.agg [.i r.Start,.lst .u 1 (r.Fibers.map AV.i)]):=by
 refine ax aY m108 rfl ?_;unfold Cb at h;simp only[ZC,A108,V37,aB];obtain⟨c,b,h⟩:=ae h;cases h;exact ZL (bf b) @V37.eq_1
def Hm(b:aK)(a:af)(v:Int×List aq):St:=⟨[(2,.pt 2 0 0),(3,.pt 3 0 0),(11,.lst .o 5 (b.Lights.map (ai .o))),(12,.i (b.Lights.length:Int)),(13,.i v.1)],[(2,.var (.agg [.lst .u 1 [],.lst .u 4 [],.lst .u 5 []])),(3,.var (.agg [.sl 500000192 0 a.Nodes.length,.sl 500000193 0 a.Fibers.length,.sl 500000194 0 v.2.length])),(500000192,.arr 1 (a.Nodes.map AV.z)),(500000193,.arr 4 (a.Fibers.map (ah .u))),(500000194,.arr 5 (v.2.map (ai .u)))]⟩
theorem w_bq(c:aK)(d:af)(a:Int×List aq)(o:(Int×List aq)⊕(List aq))(h:EG c a=some o):AWP (OkS Tryz.prog) NI (qL [2,3,11,12,13] [2,3,500000192,500000193,500000194] (Hm c d) (qX 0 [2,3] [2,3,500000192,500000193,500000194] (uN d)) o) (Hm c d a):=by
 have e:=ZA @Hm.eq_1 @uN.eq_1;unfold EG at h;simp only[ZC,Hm,NI];obtain⟨g,h⟩|⟨g,h⟩:=au h
 ·obtain⟨j,v,h⟩:=ae h;obtain⟨m,w,h⟩:=ae h;have f:=ZA g (aP v);refine ZF f ?_;refine ZUG f (w_dn _ w) ?_;obtain⟨k,b,h⟩:=bl h;have x:Row.arr 5 [(.agg [.i j.Id,.i m.Start,.lst .u 1 (m.Fibers.map AV.i),.i j.Block.First,.i j.Block.Count]:AV)]=Row.arr 5 (k.map (ai .u)):=by rw[<-b];rfl
  have p:k.length=1:=by rw[<-b];rfl
  obtain⟨a1,y,h⟩:=ae h;have q:=bf y;obtain⟨s,l,h⟩:=bl h;have z:a.2.map (ai .u)++k.map (ai .u)=s.map (ai .u):=by rw[<-l,List.map_append]
  have t:a.2.length+1=s.length:=by simp[<-b,<-l]<;>omega
  rw[t] at q;cases h;exact ZL (ZA f (ZA x (ZA p (ZA q (ZA z t))))) (ZA e (ZA b.symm (ZA l.symm p)))
 ·cases h;exact ZL g e
theorem Wn(a:aK){r:aK}(h:yl a=some r):Ok Tryz.prog 98 [.agg [.lst .o 1 (a.Network.Nodes.map AV.z),.lst .o 4 (a.Network.Fibers.map (ah .o)),.lst .o 5 (a.Lights.map (ai .o))]] (.agg [.lst .u 1 (r.Network.Nodes.map AV.z),.lst .u 4 (r.Network.Fibers.map (ah .u)),.lst .u 5 (r.Lights.map (ai .u))]):=by
 refine ax aY m98 rfl ?_;unfold yl at h;simp only[ZC,A98,V26,aB];obtain⟨b,c,h⟩:=ae h;refine ZF trivial ?_;refine ZUG trivial (w_hr _ c) ?_;obtain⟨g,d,h⟩:=ae h;try refine ZF trivial ?_
 refine aJ (bn (aG (w_bq a b) d ?_)) ?_
 ·exact ZK (ZA @Hm.eq_1 @uN.eq_1)
 ·simp only[ZC,uN,SS];cases h;exact ZL trivial @V26.eq_1
theorem w_ht(a:List Int){r:List Int}(h:PL a=some r):Ok Tryz.prog 142 [.lst .o 1 (a.map AV.i)] (.lst .u 1 (r.map AV.i)):=by
 refine ax aY m142 rfl ?_;unfold PL at h;simp only[ZC,A142,V91,aB];obtain⟨c,b,h⟩:=ae h;cases h;exact ZL (bf b) @V91.eq_1
theorem w_ft(a:aj){r:aj}(h:LK a=some r):Ok Tryz.prog 77 [.agg [.lst .o 1 (a.Plan.Network.Nodes.map AV.z),.lst .o 4 (a.Plan.Network.Fibers.map (ah .o)),.lst .o 5 (a.Plan.Lights.map (ai .o)),.lst .o 5 (a.Home.map (ai .o)),.lst .o 1 (a.Down.map AV.i)]] (.agg [.lst .u 1 (r.Plan.Network.Nodes.map AV.z),.lst .u 4 (r.Plan.Network.Fibers.map (ah .u)),.lst .u 5 (r.Plan.Lights.map (ai .u)),.lst .u 5 (r.Home.map (ai .u)),.lst .u 1 (r.Down.map AV.i)]):=by
 refine ax aY m77 rfl ?_;unfold LK at h;simp only[ZC,A77,me,aB];obtain⟨g,b,h⟩:=ae h;refine ZF trivial ?_;refine ZUG trivial (Wn _ b) ?_;obtain⟨j,c,h⟩:=ae h;refine ZF trivial ?_;refine ZUG trivial (Wn _ c) ?_;obtain⟨k,d,h⟩:=ae h;refine ZF trivial ?_;refine ZUG trivial (w_ht _ d) ?_;cases h;exact ZL trivial @me.eq_1
theorem w_ho(a:aq)(p1Z0:aq){r:Bool}(h:QY a p1Z0=some r):Ok Tryz.prog 168 [.agg [.i a.Id,.i a.Route.Start,.lst .o 1 (a.Route.Fibers.map AV.i),.i a.Block.First,.i a.Block.Count],.bp .o (.agg [.i p1Z0.Id,.i p1Z0.Route.Start,.lst .o 1 (p1Z0.Route.Fibers.map AV.i),.i p1Z0.Block.First,.i p1Z0.Block.Count]) 0] (.b r):=by
 refine ax aY m168 rfl ?_;unfold QY at h;simp only[ZC,A168,lz,aB];obtain⟨c,h⟩|⟨c,h⟩:=au h
 ·obtain⟨g,d,h⟩:=ae h;refine ZF c ?_;refine ZSG c (w_di _ _ d) ?_;cases h;exact ZL c @lz.eq_1
 ·cases h;exact ZL c @lz.eq_1
theorem w_fn(c:aj)(a:aq){r:Bool}(h:Ln c a=some r):Ok Tryz.prog 107 [.agg [.lst .o 1 (c.Plan.Network.Nodes.map AV.z),.lst .o 4 (c.Plan.Network.Fibers.map (ah .o)),.lst .o 5 (c.Plan.Lights.map (ai .o)),.lst .o 5 (c.Home.map (ai .o)),.lst .o 1 (c.Down.map AV.i)],.agg [.i a.Id,.i a.Route.Start,.lst .o 1 (a.Route.Fibers.map AV.i),.i a.Block.First,.i a.Block.Count]] (.b r):=by
 refine ax aY m107 rfl ?_;unfold Ln at h;simp only[ZC,A107,V85,aB];obtain⟨l,g,h⟩:=ae h;refine ZF trivial ?_;refine ZUG trivial (PB _ _ g) ?_;obtain⟨d,h⟩|⟨d,h⟩:=au h
 ·obtain⟨m,j,h⟩:=ae h;refine ZF d ?_;refine ZSG d (Qq _ _ j 168 [.bp .o (.agg [.i a.Id,.i a.Route.Start,.lst .o 1 (a.Route.Fibers.map AV.i),.i a.Block.First,.i a.Block.Count]) 0] ⟨fun ρ k=>by simp only[VS1,VS2,VS3,VS4,VS5,VS6,VT1,VT2,bw,bx,decide_true,decide_false,List.nodup_nil,List.nodup_cons,cP,cO,cQ,ne_eq,not_false_eq_true,Int.reduceEq,Int.reduceNe,true_and,false_and,Nat.reduceSub,Nat.reduceMul,↓reduceIte,reduceCtorEq,Nat.reduceEqDiff,Nat.reduceAdd,Nat.reduceLeDiff,Int.reduceLE],by simp[aM,AV.ments]⟩ (fun _ _ h=>w_ho _ _ h)) ?_;cases h;exact ZL d @V85.eq_1
 ·cases h;exact ZL d @V85.eq_1
def JU(c:aK)(b:aq)(a:aK)(v:Int):St:=⟨[(2,.pt 2 0 0),(3,.pt 3 0 0),(4,.pt 4 0 0),(5,.pt 5 0 0),(6,.i v)],[(2,.var (.agg [.lst .o 1 (c.Network.Nodes.map AV.z),.lst .o 4 (c.Network.Fibers.map (ah .o)),.lst .o 5 (c.Lights.map (ai .o))])),(3,.var (.agg [.i b.Id,.i b.Route.Start,.lst .o 1 (b.Route.Fibers.map AV.i),.i b.Block.First,.i b.Block.Count])),(4,.var (.agg [.lst .u 1 [],.lst .u 4 [],.lst .u 5 []])),(5,.var (.agg [.sl 8 0 a.Network.Nodes.length,.sl 1008 0 a.Network.Fibers.length,.sl 2008 0 a.Lights.length])),(8,.arr 1 (a.Network.Nodes.map AV.z)),(1008,.arr 4 (a.Network.Fibers.map (ah .u))),(2008,.arr 5 (a.Lights.map (ai .u)))]⟩
def AA(b:aq)(a:aK)(v:Int):St:=⟨[(3,.pt 3 0 0),(4,.pt 4 0 0),(5,.pt 5 0 0),(6,.i v)],[(3,.var (.agg [.i b.Id,.i b.Route.Start,.lst .o 1 (b.Route.Fibers.map AV.i),.i b.Block.First,.i b.Block.Count])),(4,.var (.agg [.lst .u 1 [],.lst .u 4 [],.lst .u 5 []])),(5,.var (.agg [.sl 8 0 a.Network.Nodes.length,.sl 1008 0 a.Network.Fibers.length,.sl 2008 0 a.Lights.length])),(8,.arr 1 (a.Network.Nodes.map AV.z)),(1008,.arr 4 (a.Network.Fibers.map (ah .u))),(2008,.arr 5 (a.Lights.map (ai .u)))]⟩
theorem w_ak(c:aK)(a:aq)(d:aK)(i:Int)(o:Int⊕Int)(h:Eh c a i=some o):AWP (OkS Tryz.prog) yX (qL [2,3,4,5,6] [2,3,4,5,8,1008,2008] (JU c a d) (qX 0 [3,4,5,6] [3,4,5,8,1008,2008] (AA a d)) o) (JU c a d i):=by
 have e:=ZA @JU.eq_1 @AA.eq_1;unfold Eh at h;simp only[ZC,JU,yX];obtain⟨b,h⟩|⟨b,h⟩:=au h
 ·obtain⟨k,j,h⟩:=ae h;obtain⟨g,h⟩|⟨g,h⟩:=au h
  ·cases h;exact ZL (ZA b (ZA (aP j) g)) e
  ·cases h;exact ZL (ZA b (ZA (aP j) g)) e
 ·cases h;exact ZL b e
theorem w_ec(d:aK)(a:aq){r:aK}(h:ET d a=some r):Ok Tryz.prog 174 [.agg [.lst .o 1 (d.Network.Nodes.map AV.z),.lst .o 4 (d.Network.Fibers.map (ah .o)),.lst .o 5 (d.Lights.map (ai .o))],.agg [.i a.Id,.i a.Route.Start,.lst .o 1 (a.Route.Fibers.map AV.i),.i a.Block.First,.i a.Block.Count]] (.agg [.lst .u 1 (r.Network.Nodes.map AV.z),.lst .u 4 (r.Network.Fibers.map (ah .u)),.lst .u 5 (r.Lights.map (ai .u))]):=by
 refine ax aY m174 rfl ?_;unfold ET at h;simp only[ZC,A174,sU,aB];obtain⟨g,q,h⟩:=ae h;refine ZF trivial ?_;refine ZUG trivial (Wn _ q) ?_;obtain⟨x,s,h⟩:=ae h;try refine ZF trivial ?_
 refine aJ (bn (aG (w_ak d a g) s ?_)) ?_
 ·exact ZK (ZA @JU.eq_1 @AA.eq_1)
 ·simp only[ZC,AA,LC];obtain⟨k,t,h⟩:=ae h;refine ZF trivial ?_;refine ZUG trivial (w_dn _ t) ?_;obtain⟨b,c,h⟩:=bl h;have l:Row.arr 5 [(.agg [.i a.Id,.i k.Start,.lst .u 1 (k.Fibers.map AV.i),.i a.Block.First,.i a.Block.Count]:AV)]=Row.arr 5 (b.map (ai .u)):=by rw[<-c];rfl
  have j:b.length=1:=by rw[<-c];rfl
  have m:sub (b.map (ai .u)) 0 1=b.map (ai .u):=sM _ (by simp[<-c]);obtain⟨v,p,h⟩:=ae h;have w:v.length=g.Lights.length+b.length:=wO p;have f:=ZA l (ZA j m);refine ZF f ?_;refine jv (by simp only[VS1,VS2,VS3,VS4,VS5,VS6,VT1,VT2,bw,bx,decide_true,decide_false,List.nodup_nil,List.nodup_cons,cP,cO,cQ,ne_eq,not_false_eq_true,Int.reduceEq,Int.reduceNe,true_and,false_and,Nat.reduceSub,Nat.reduceMul,↓reduceIte,reduceCtorEq,Nat.reduceEqDiff,Nat.reduceAdd,Nat.reduceLeDiff,Int.reduceLE,l,j,m];exact(PI Ue ((ai .u)) (xs:=g.Lights) (ys:=b) (by simp[<-c]) (by simp[<-c]) p)) (by simp[VS1,VS2,VS3,VS4,VS5,VS6,VT1,VT2]) (by first|exact mq [0] [3700000] rfl (by decide+kernel) (by simp[VS1,VS2,VS3,VS4,VS5,VS6,VT1,VT2])|simp[VS1,VS2,VS3,VS4,VS5,VS6,VT1,VT2]) ?_;refine ZG ?_;cases h;exact ZL f (ZA @sU.eq_1 (ZA c.symm (ZA w j)))
theorem w_hw(a:Int)(p1Z0:af){r:Bool}(h:RB a p1Z0=some r):Ok Tryz.prog 239 [.i a,.bp .o (.agg [.lst .o 1 (p1Z0.Nodes.map AV.z),.lst .o 4 (p1Z0.Fibers.map (ah .o))]) 0] (.b r):=by
 refine ax aY m239 rfl ?_;unfold RB at h;simp only[ZC,A239,lz,aB];obtain⟨d,c,h⟩:=ae h;refine ZF trivial ?_;refine ZSG trivial (w_h _ _ _ c) ?_;cases h;exact ZL trivial @lz.eq_1
def Mp(a:List Int)(F_fZ0:Nat)(C_fZ0:List AV)(v:Int):St:=⟨[(0,.lst .o 1 (a.map AV.i)),(1,.fn F_fZ0 C_fZ0),(7,.i (a.length:Int)),(8,.i v)],[]⟩
theorem w_bt(c:List Int)(j:Int->Option Bool)(F_fZ0:Nat)(C_fZ0:List AV)(hC_fZ0:pE C_fZ0)(hf_fZ0:∀(x0:Int)(r:Bool),j x0=some r->Ok Tryz.prog F_fZ0 ((.i x0)::C_fZ0) (.b r))(k:Int)(o:Int⊕(Unit⊕Int))(h:CW c j k=some o):AWP (OkS Tryz.prog) yf (qL [0,1,7,8] [] (Mp c F_fZ0 C_fZ0) (qS (qX 0 [] [] (bN)) (qR V85 (fun r=>.i r))) o) (Mp c F_fZ0 C_fZ0 k):=by
 have e:=ZA @Mp.eq_1 @bN.eq_1;unfold CW at h;simp only[ZC,Mp,yf];obtain⟨a,h⟩|⟨a,h⟩:=au h
 ·obtain⟨m,d,h⟩:=ae h;obtain⟨p,l,h⟩:=ae h;have f:=ZA a (aP d);refine ZF f ?_;have f:=ZA f hC_fZ0.1;refine ZSG f (hf_fZ0 _ _ l) ?_;obtain⟨g,h⟩|⟨g,h⟩:=au h
  ·cases h;exact ZL (ZA a (ZA (aP d) g)) (ZA @V85.eq_1 (ZA hC_fZ0.2 ((du hC_fZ0))))
  ·cases h;exact ZL (ZA a (ZA (aP d) g)) (ZA e (ZA hC_fZ0.2 ((du hC_fZ0))))
 ·cases h;exact ZL a (ZA e (ZA hC_fZ0.2 ((du hC_fZ0))))
theorem w_hv(a:List Int)(c:Int->Option Bool){r:Int}(h:Px a c=some r)(F_fZ0:Nat)(C_fZ0:List AV)(hC_fZ0:pE C_fZ0)(hf_fZ0:∀(x0:Int)(r:Bool),c x0=some r->Ok Tryz.prog F_fZ0 ((.i x0)::C_fZ0) (.b r)):Ok Tryz.prog 145 [.lst .o 1 (a.map AV.i),.fn F_fZ0 C_fZ0] (.i r):=by
 refine ax aY m145 rfl ?_;unfold Px at h;simp only[ZC,A145,V85,aB];obtain⟨d,g,h⟩:=ae h;try refine ZF trivial ?_
 refine bj (o:=d) (bq cy (aG (w_bt a c F_fZ0 C_fZ0 hC_fZ0 hf_fZ0) g ?_)) (fun k hv=>?_) (fun l hv e τ hne hq=>?_)
 ·exact ZK (ZA @Mp.eq_1 (ZA @bN.eq_1 (ZA hC_fZ0.2 ((du hC_fZ0)))))
 ·subst hv;simp only[] at h;simp only[ZC,bN,Nu];cases h;exact ZL trivial (ZA @V85.eq_1 (ZA hC_fZ0.2 ((du hC_fZ0))))
 ·subst hv;simp only[] at h;obtain⟨rfl,j⟩:=hq;cases h;exact j
theorem w_fv(a:List Int)(c:Int->Option Bool){r:Bool}(h:GC a c=some r)(F_fZ0:Nat)(C_fZ0:List AV)(hC_fZ0:pE C_fZ0)(hf_fZ0:∀(x0:Int)(r:Bool),c x0=some r->Ok Tryz.prog F_fZ0 ((.i x0)::C_fZ0) (.b r)):Ok Tryz.prog 238 [.lst .o 1 (a.map AV.i),.fn F_fZ0 C_fZ0] (.b r):=by
 refine ax aY m238 rfl ?_;unfold GC at h;simp only[ZC,A238,V85,aB];obtain⟨g,d,h⟩:=ae h;refine ZF trivial ?_;refine ZSG hC_fZ0.1 (w_hv _ _ d F_fZ0 C_fZ0 hC_fZ0 hf_fZ0) ?_;cases h;exact ZL trivial (ZA @V85.eq_1 (ZA hC_fZ0.2 ((du hC_fZ0))))
theorem w_fw(a:af)(d:List Int){r:Bool}(h:Ih a d=some r):Ok Tryz.prog 215 [.agg [.lst .o 1 (a.Nodes.map AV.z),.lst .o 4 (a.Fibers.map (ah .o))],.lst .o 1 (d.map AV.i)] (.b r):=by
 refine ax aY m215 rfl ?_;unfold Ih at h;simp only[ZC,A215,V85,aB];obtain⟨l,g,h⟩:=ae h;refine ZF trivial ?_;refine ZSG trivial (w_dk _ g) ?_;obtain⟨c,h⟩|⟨c,h⟩:=au h
 ·obtain⟨m,j,h⟩:=ae h;refine ZF c ?_;refine ZSG c (w_fv _ _ j 239 [.bp .o (.agg [.lst .o 1 (a.Nodes.map AV.z),.lst .o 4 (a.Fibers.map (ah .o))]) 0] ⟨fun ρ k=>by simp only[VS1,VS2,VS3,VS4,VS5,VS6,VT1,VT2,bw,bx,decide_true,decide_false,List.nodup_nil,List.nodup_cons,cP,cO,cQ,ne_eq,not_false_eq_true,Int.reduceEq,Int.reduceNe,true_and,false_and,Nat.reduceSub,Nat.reduceMul,↓reduceIte,reduceCtorEq,Nat.reduceEqDiff,Nat.reduceAdd,Nat.reduceLeDiff,Int.reduceLE],by simp[aM,AV.ments]⟩ (fun _ _ h=>w_hw _ _ h)) ?_;cases h;exact ZL c @V85.eq_1
 ·cases h;exact ZL c @V85.eq_1
theorem w_dp(b:List Int){r:List Int}(h:Fd b=some r):Ok Tryz.prog 241 [.lst .o 1 (b.map AV.i)] (.lst .u 1 (r.map AV.i)):=by
 refine ax aY m241 rfl ?_;unfold Fd at h;simp only[ZC,A241,V91,aB];obtain⟨a,h⟩|⟨a,h⟩:=au h
 ·refine ZF a ?_;refine And.intro ?_ ?_
  ·replace h:=WO h;cases h;exact ZL a @V91.eq_1
  ·replace h:=Xk h;obtain⟨g,c,h⟩:=ae h;cases h;exact ZL (ZA a (bf c)) @V91.eq_1
 ·obtain⟨j,d,h⟩:=ae h;cases h;exact ZL (ZA a (bf d)) @V91.eq_1
def Hy(b:Int)(c:Int)(d:List Int)(a:af)(v:Int×Int×List ar×Int×af):St:=⟨[(0,.i b),(1,.i c),(2,.lst .m 1 (d.map AV.i)),(7,.pt 1000000006 0 0),(25,.lst .o 4 (((a).Fibers).map (ah .o))),(26,.i (((a).Fibers).length:Int)),(27,.i v.1)],[(470000128,.arr 2 (v.2.2.1.map (aA .u))),(1000000001,.var (.i v.2.1)),(1000000002,.var (.sl 470000128 0 v.2.2.1.length)),(1000000004,.var (.i v.2.2.2.1)),(1000000005,.var (.agg [.lst .o 1 (((v.2.2.2.2).Nodes).map AV.z),.lst .o 4 (((v.2.2.2.2).Fibers).map (ah .o))])),(1000000006,.var (.fn 240 [.pt 1000000001 0 0,.pt 1000000002 0 0,.pt 1000000004 0 0,.pt 1000000005 0 0,.pt 1000000006 0 0]))]⟩
def Bt(v:Int×List ar×Int×af):St:=⟨[],[(470000128,.arr 2 (v.2.1.map (aA .u))),(1000000001,.var (.i v.1)),(1000000002,.var (.sl 470000128 0 v.2.1.length)),(1000000004,.var (.i v.2.2.1)),(1000000005,.var (.agg [.lst .o 1 (((v.2.2.2).Nodes).map AV.z),.lst .o 4 (((v.2.2.2).Fibers).map (ah .o))])),(1000000006,.var (.fn 240 [.pt 1000000001 0 0,.pt 1000000002 0 0,.pt 1000000004 0 0,.pt 1000000005 0 0,.pt 1000000006 0 0]))]⟩
theorem w_aa(g:Int)(j:Int)(a:List Int)(p:Int)(k:List ar)(q:Int)(d:af)(b1:Int->Int->List Int->Int->List ar->Int->af->Option (Int×List ar×Int×af))(l1:∀(g:Int)(j:Int)(a:List Int)(p:Int)(k:List ar)(q:Int)(d:af){r:Int×List ar×Int×af},b1 g j a p k q d=some r->OkM Tryz.prog 240 [.i g,.i j,.sl 1000000000 0 a.length,.pt 1000000001 0 0,.pt 1000000002 0 0,.pt 1000000004 0 0,.pt 1000000005 0 0,.pt 1000000006 0 0] [(1000000000,.arr 1 (a.map AV.i)),(1000000001,.var (.i p)),(1000000002,.var (.sl 1000000003 0 k.length)),(1000000003,.arr 2 (k.map (aA .u))),(1000000004,.var (.i q)),(1000000005,.var (.agg [.lst .o 1 (((d).Nodes).map AV.z),.lst .o 4 (((d).Fibers).map (ah .o))])),(1000000006,.var (.fn 240 [.pt 1000000001 0 0,.pt 1000000002 0 0,.pt 1000000004 0 0,.pt 1000000005 0 0,.pt 1000000006 0 0]))] (.tup []) ([(470000128,.arr 2 (r.2.1.map (aA .u))),(1000000001,.var (.i r.1)),(1000000002,.var (.sl 470000128 0 r.2.1.length)),(1000000004,.var (.i r.2.2.1)),(1000000005,.var (.agg [.lst .o 1 (((r.2.2.2).Nodes).map AV.z),.lst .o 4 (((r.2.2.2).Fibers).map (ah .o))])),(1000000006,.var (.fn 240 [.pt 1000000001 0 0,.pt 1000000002 0 0,.pt 1000000004 0 0,.pt 1000000005 0 0,.pt 1000000006 0 0]))]))(c:Int×Int×List ar×Int×af)(o:(Int×Int×List ar×Int×af)⊕(Int×List ar×Int×af))(h:LB g j a d b1 c=some o):AWP (OkS Tryz.prog) ql (qL [0,1,2,7,25,26,27] [470000128,1000000001,1000000002,1000000004,1000000005,1000000006] (Hy g j a d) (qX 0 [] [470000128,1000000001,1000000002,1000000004,1000000005,1000000006] (Bt)) o) (Hy g j a d c):=by
 have e:=ZA @Hy.eq_1 @Bt.eq_1;unfold LB at h;simp only[ZC,Hy,ql];obtain⟨t,h⟩|⟨t,h⟩:=au h
 ·obtain⟨b2,m1,h⟩:=ae h;obtain⟨p1,q1,h⟩:=ae h;have f:=ZA t (aP m1);refine ZF f ?_;refine ZSG f (Wq _ _ q1) ?_;obtain⟨s1,t1,h⟩:=ae h;try refine ZF f ?_
  refine aJ (sh:=(fun v=>⟨[(0,.i g),(1,.i j),(2,.lst .m 1 (a.map AV.i)),(7,.pt 1000000006 0 0),(11,.i c.1),(13,.i p1),(25,.lst .o 4 (((d).Fibers).map (ah .o))),(26,.i (((d).Fibers).length:Int)),(27,.i c.1),(43,.b v)],[(470000128,.arr 2 (c.2.2.1.map (aA .u))),(1000000001,.var (.i c.2.1)),(1000000002,.var (.sl 470000128 0 c.2.2.1.length)),(1000000004,.var (.i c.2.2.2.1)),(1000000005,.var (.agg [.lst .o 1 (((c.2.2.2.2).Nodes).map AV.z),.lst .o 4 (((c.2.2.2.2).Fibers).map (ah .o))])),(1000000006,.var (.fn 240 [.pt 1000000001 0 0,.pt 1000000002 0 0,.pt 1000000004 0 0,.pt 1000000005 0 0,.pt 1000000006 0 0]))]⟩)) (s:=s1) ?_ ?_
  ·replace h:=t1;obtain⟨w,h⟩|⟨w,h⟩:=au h
   ·obtain⟨c2,u1,h⟩:=ae h;cases h;exact ZL (ZA f (ZA w (bf u1))) trivial
   ·cases h;exact ZL (ZA f w) trivial
  ·simp only[ZC,vV];obtain⟨x,h⟩|⟨x,h⟩:=au h
   ·obtain⟨d2,v1,h⟩:=ae h;have c1:(0:Int)<=(a.length:Int):=Int.natCast_nonneg _;obtain⟨y,l,h⟩:=bl h;have w1:Row.arr 1 [(.i c.1:AV)]=Row.arr 1 (y.map AV.i):=by rw[<-l];rfl
    have d1:y.length=1:=by rw[<-l];rfl
    obtain⟨g2,y1,h⟩:=ae h;have g1:=bf y1;obtain⟨i1,a1,h⟩:=bl h;have z1:a.map AV.i++y.map AV.i=i1.map AV.i:=by rw[<-a1,List.map_append]
    have j1:a.length+1=i1.length:=by simp[<-l,<-a1]<;>omega
    rw[j1] at g1;have k1:(0:Nat)<1:=by decide
    obtain⟨i2,a2,h⟩:=ae h;have f:=ZA f (ZA x (ZA (bf v1) (ZA c1 (ZA w1 (ZA d1 (ZA g1 (ZA z1 (ZA j1 k1))))))));refine ZF f ?_;refine ZWG f (l1 _ _ _ _ _ _ _ a2) [470000128,1000000001,1000000002,1000000004,1000000005,1000000006] [476000128] ?_;cases h;exact ZL f (ZA e (ZA l.symm (ZA a1.symm (ZA c1 (ZA d1 k1)))))
   ·cases h;exact ZL (ZA f x) e
 ·cases h;exact ZL t e
theorem WP(m:Int->Int->List Int->Int->List ar->Int->af->Option (Int×List ar×Int×af))(t:∀(g:Int)(j:Int)(b:List Int)(k:Int)(a:List ar)(d:Int)(c:af){r:Int×List ar×Int×af},m g j b k a d c=some r->OkM Tryz.prog 240 [.i g,.i j,.sl 1000000000 0 b.length,.pt 1000000001 0 0,.pt 1000000002 0 0,.pt 1000000004 0 0,.pt 1000000005 0 0,.pt 1000000006 0 0] [(1000000000,.arr 1 (b.map AV.i)),(1000000001,.var (.i k)),(1000000002,.var (.sl 1000000003 0 a.length)),(1000000003,.arr 2 (a.map (aA .u))),(1000000004,.var (.i d)),(1000000005,.var (.agg [.lst .o 1 (((c).Nodes).map AV.z),.lst .o 4 (((c).Fibers).map (ah .o))])),(1000000006,.var (.fn 240 [.pt 1000000001 0 0,.pt 1000000002 0 0,.pt 1000000004 0 0,.pt 1000000005 0 0,.pt 1000000006 0 0]))] (.tup []) ([(470000128,.arr 2 (r.2.1.map (aA .u))),(1000000001,.var (.i r.1)),(1000000002,.var (.sl 470000128 0 r.2.1.length)),(1000000004,.var (.i r.2.2.1)),(1000000005,.var (.agg [.lst .o 1 (((r.2.2.2).Nodes).map AV.z),.lst .o 4 (((r.2.2.2).Fibers).map (ah .o))])),(1000000006,.var (.fn 240 [.pt 1000000001 0 0,.pt 1000000002 0 0,.pt 1000000004 0 0,.pt 1000000005 0 0,.pt 1000000006 0 0]))]))(g:Int)(j:Int)(b:List Int)(k:Int)(a:List ar)(d:Int)(c:af){r:Int×List ar×Int×af}(h:KM m g j b k a d c=some r):OkM Tryz.prog 240 [.i g,.i j,.sl 1000000000 0 b.length,.pt 1000000001 0 0,.pt 1000000002 0 0,.pt 1000000004 0 0,.pt 1000000005 0 0,.pt 1000000006 0 0] [(1000000000,.arr 1 (b.map AV.i)),(1000000001,.var (.i k)),(1000000002,.var (.sl 1000000003 0 a.length)),(1000000003,.arr 2 (a.map (aA .u))),(1000000004,.var (.i d)),(1000000005,.var (.agg [.lst .o 1 (((c).Nodes).map AV.z),.lst .o 4 (((c).Fibers).map (ah .o))])),(1000000006,.var (.fn 240 [.pt 1000000001 0 0,.pt 1000000002 0 0,.pt 1000000004 0 0,.pt 1000000005 0 0,.pt 1000000006 0 0]))] (.tup []) ([(470000128,.arr 2 (r.2.1.map (aA .u))),(1000000001,.var (.i r.1)),(1000000002,.var (.sl 470000128 0 r.2.1.length)),(1000000004,.var (.i r.2.2.1)),(1000000005,.var (.agg [.lst .o 1 (((r.2.2.2).Nodes).map AV.z),.lst .o 4 (((r.2.2.2).Fibers).map (ah .o))])),(1000000006,.var (.fn 240 [.pt 1000000001 0 0,.pt 1000000002 0 0,.pt 1000000004 0 0,.pt 1000000005 0 0,.pt 1000000006 0 0]))]):=by
 refine bJ (lr:=[470000128,1000000001,1000000002,1000000004,1000000005,1000000006]) aY Vu rfl rfl ?_;unfold KM at h;simp only[ZC,IB,co];obtain⟨l,h⟩|⟨l,h⟩:=au h
 ·obtain⟨c1,d1,h⟩:=ae h;refine ZF l ?_;refine ZUG l (w_dp _ d1) ?_;obtain⟨q,p,h⟩:=bl h;have g1:Row.arr 2 [(.agg [.i d,.lst .u 1 (c1.map AV.i)]:AV)]=Row.arr 2 (q.map (aA .u)):=by rw[<-p];rfl
  have v:q.length=1:=by rw[<-p];rfl
  obtain⟨k1,i1,h⟩:=ae h;have w:=bf i1;obtain⟨x,s,h⟩:=bl h;have j1:a.map (aA .u)++q.map (aA .u)=x.map (aA .u):=by rw[<-s,List.map_append]
  have y:a.length+1=x.length:=by simp[<-p,<-s]<;>omega
  rw[y] at w;cases h;exact ZL (ZA l (ZA g1 (ZA v (ZA w (ZA j1 y))))) (ZA @co.eq_1 (ZA p.symm (ZA s.symm v)))
 ·obtain⟨l1,a1,h⟩:=ae h;try refine ZF l ?_
  first|refine eu (bn (aG (w_aa g j b k a d c m t) a1 ?_)) (fun τ b1=>?_)|refine fM (aG (w_aa g j b k a d c m t) a1 ?_) (fun τ b1=>?_)
  ·exact ZK (ZA @Hy.eq_1 @Bt.eq_1)
  ·cases h;refine ky b1 (by decide) ?_ rfl;exact ZK (ZA @co.eq_1 @Bt.eq_1)
theorem w_cs:∀(n:Nat)(d:Int)(g:Int)(a:List Int)(j:Int)(b:List ar)(k:Int)(c:af){r:Int×List ar×Int×af}(_:DU n d g a j b k c=some r),OkM Tryz.prog 240 [.i d,.i g,.sl 1000000000 0 a.length,.pt 1000000001 0 0,.pt 1000000002 0 0,.pt 1000000004 0 0,.pt 1000000005 0 0,.pt 1000000006 0 0] [(1000000000,.arr 1 (a.map AV.i)),(1000000001,.var (.i j)),(1000000002,.var (.sl 1000000003 0 b.length)),(1000000003,.arr 2 (b.map (aA .u))),(1000000004,.var (.i k)),(1000000005,.var (.agg [.lst .o 1 (((c).Nodes).map AV.z),.lst .o 4 (((c).Fibers).map (ah .o))])),(1000000006,.var (.fn 240 [.pt 1000000001 0 0,.pt 1000000002 0 0,.pt 1000000004 0 0,.pt 1000000005 0 0,.pt 1000000006 0 0]))] ((fun(r:Int×List ar×Int×af)=>.tup []) r) ((fun(r:Int×List ar×Int×af)=>[(470000128,.arr 2 (r.2.1.map (aA .u))),(1000000001,.var (.i r.1)),(1000000002,.var (.sl 470000128 0 r.2.1.length)),(1000000004,.var (.i r.2.2.1)),(1000000005,.var (.agg [.lst .o 1 (((r.2.2.2).Nodes).map AV.z),.lst .o 4 (((r.2.2.2).Fibers).map (ah .o))])),(1000000006,.var (.fn 240 [.pt 1000000001 0 0,.pt 1000000002 0 0,.pt 1000000004 0 0,.pt 1000000005 0 0,.pt 1000000006 0 0]))]) r)
 |0,d,g,a,j,b,k,c,_,h=>by cases h
 |n+1,d,g,a,j,b,k,c,_,h=>WP (DU n) (w_cs n) d g a j b k c h
def Hi(b:Int)(c:Int)(d:List Int)(a:af)(v:Int×Int×List ar×Int×af):St:=⟨[(0,.i b),(1,.i c),(2,.lst .u 1 (d.map AV.i)),(7,.pt 1000000005 0 0),(25,.lst .o 4 (((a).Fibers).map (ah .o))),(26,.i (((a).Fibers).length:Int)),(27,.i v.1)],[(470000064,.arr 2 (v.2.2.1.map (aA .u))),(1000000000,.var (.i v.2.1)),(1000000001,.var (.sl 470000064 0 v.2.2.1.length)),(1000000003,.var (.i v.2.2.2.1)),(1000000004,.var (.agg [.lst .o 1 (((v.2.2.2.2).Nodes).map AV.z),.lst .o 4 (((v.2.2.2.2).Fibers).map (ah .o))])),(1000000005,.var (.fn 240 [.pt 1000000000 0 0,.pt 1000000001 0 0,.pt 1000000003 0 0,.pt 1000000004 0 0,.pt 1000000005 0 0]))]⟩
def Bk(v:Int×List ar×Int×af):St:=⟨[],[(470000064,.arr 2 (v.2.1.map (aA .u))),(1000000000,.var (.i v.1)),(1000000001,.var (.sl 470000064 0 v.2.1.length)),(1000000003,.var (.i v.2.2.1)),(1000000004,.var (.agg [.lst .o 1 (((v.2.2.2).Nodes).map AV.z),.lst .o 4 (((v.2.2.2).Fibers).map (ah .o))])),(1000000005,.var (.fn 240 [.pt 1000000000 0 0,.pt 1000000001 0 0,.pt 1000000003 0 0,.pt 1000000004 0 0,.pt 1000000005 0 0]))]⟩
theorem w_as(g:Int)(j:Int)(c:List Int)(d:af)(a:Int×Int×List ar×Int×af)(o:(Int×Int×List ar×Int×af)⊕(Int×List ar×Int×af))(h:UT g j c d a=some o):AWP (OkS Tryz.prog) pN (qL [0,1,2,7,25,26,27] [470000064,1000000000,1000000001,1000000003,1000000004,1000000005] (Hi g j c d) (qX 0 [] [470000064,1000000000,1000000001,1000000003,1000000004,1000000005] (Bk)) o) (Hi g j c d a):=by
 have e:=ZA @Hi.eq_1 @Bk.eq_1;unfold UT at h;simp only[ZC,Hi,pN];obtain⟨l,h⟩|⟨l,h⟩:=au h
 ·obtain⟨u1,d1,h⟩:=ae h;obtain⟨g1,i1,h⟩:=ae h;have f:=ZA l (aP d1);refine ZF f ?_;refine ZSG f (Wq _ _ i1) ?_;obtain⟨j1,k1,h⟩:=ae h;try refine ZF f ?_
  refine aJ (sh:=(fun v=>⟨[(0,.i g),(1,.i j),(2,.lst .u 1 (c.map AV.i)),(7,.pt 1000000005 0 0),(11,.i a.1),(13,.i g1),(25,.lst .o 4 (((d).Fibers).map (ah .o))),(26,.i (((d).Fibers).length:Int)),(27,.i a.1),(43,.b v)],[(470000064,.arr 2 (a.2.2.1.map (aA .u))),(1000000000,.var (.i a.2.1)),(1000000001,.var (.sl 470000064 0 a.2.2.1.length)),(1000000003,.var (.i a.2.2.2.1)),(1000000004,.var (.agg [.lst .o 1 (((a.2.2.2.2).Nodes).map AV.z),.lst .o 4 (((a.2.2.2.2).Fibers).map (ah .o))])),(1000000005,.var (.fn 240 [.pt 1000000000 0 0,.pt 1000000001 0 0,.pt 1000000003 0 0,.pt 1000000004 0 0,.pt 1000000005 0 0]))]⟩)) (s:=j1) ?_ ?_
  ·replace h:=k1;obtain⟨m,h⟩|⟨m,h⟩:=au h
   ·obtain⟨v1,l1,h⟩:=ae h;cases h;exact ZL (ZA f (ZA m (bf l1))) trivial
   ·cases h;exact ZL (ZA f m) trivial
  ·simp only[ZC,wo];obtain⟨p,h⟩|⟨p,h⟩:=au h
   ·obtain⟨w1,m1,h⟩:=ae h;have w:(0:Int)<=(c.length:Int):=Int.natCast_nonneg _;obtain⟨q,k,h⟩:=bl h;have p1:Row.arr 1 [(.i a.1:AV)]=Row.arr 1 (q.map AV.i):=by rw[<-k];rfl
    have x:q.length=1:=by rw[<-k];rfl
    obtain⟨y1,q1,h⟩:=ae h;have y:=bf q1;obtain⟨a1,t,h⟩:=bl h;have s1:c.map AV.i++q.map AV.i=a1.map AV.i:=by rw[<-t,List.map_append]
    have b1:c.length+1=a1.length:=by simp[<-k,<-t]<;>omega
    rw[b1] at y;have c1:(0:Nat)<1:=by decide
    obtain⟨z1,t1,h⟩:=ae h;have f:=ZA f (ZA p (ZA (bf m1) (ZA w (ZA p1 (ZA x (ZA y (ZA s1 (ZA b1 c1))))))));refine ZF f ?_;refine ZWG f (w_cs N0 _ _ _ _ _ _ _ t1) [470000128,1000000001,1000000002,1000000004,1000000005,1000000006] [476000128] ?_;cases h;exact ZL f (ZA e (ZA k.symm (ZA t.symm (ZA w (ZA x c1)))))
   ·cases h;exact ZL (ZA f p) e
 ·cases h;exact ZL l e
theorem w_hu(d:Int)(g:Int)(j:List Int)(q:Int)(a:List ar)(l:Int)(b:af){r:Int×List ar×Int×af}(h:OL d g j q a l b=some r):OkM Tryz.prog 240 [.i d,.i g,.lst .u 1 (j.map AV.i),.pt 1000000000 0 0,.pt 1000000001 0 0,.pt 1000000003 0 0,.pt 1000000004 0 0,.pt 1000000005 0 0] [(1000000000,.var (.i q)),(1000000001,.var (.sl 1000000002 0 a.length)),(1000000002,.arr 2 (a.map (aA .u))),(1000000003,.var (.i l)),(1000000004,.var (.agg [.lst .o 1 (((b).Nodes).map AV.z),.lst .o 4 (((b).Fibers).map (ah .o))])),(1000000005,.var (.fn 240 [.pt 1000000000 0 0,.pt 1000000001 0 0,.pt 1000000003 0 0,.pt 1000000004 0 0,.pt 1000000005 0 0]))] (.tup []) ([(470000064,.arr 2 (r.2.1.map (aA .u))),(1000000000,.var (.i r.1)),(1000000001,.var (.sl 470000064 0 r.2.1.length)),(1000000003,.var (.i r.2.2.1)),(1000000004,.var (.agg [.lst .o 1 (((r.2.2.2).Nodes).map AV.z),.lst .o 4 (((r.2.2.2).Fibers).map (ah .o))])),(1000000005,.var (.fn 240 [.pt 1000000000 0 0,.pt 1000000001 0 0,.pt 1000000003 0 0,.pt 1000000004 0 0,.pt 1000000005 0 0]))]):=by
 refine bJ (lr:=[470000064,1000000000,1000000001,1000000003,1000000004,1000000005]) aY VC rfl rfl ?_;unfold OL at h;simp only[ZC,Ha,co];obtain⟨c,h⟩|⟨c,h⟩:=au h
 ·obtain⟨a1,b1,h⟩:=ae h;refine ZF c ?_;refine ZUG c (w_dp _ b1) ?_;obtain⟨m,k,h⟩:=bl h;have c1:Row.arr 2 [(.agg [.i l,.lst .u 1 (a1.map AV.i)]:AV)]=Row.arr 2 (m.map (aA .u)):=by rw[<-k];rfl
  have s:m.length=1:=by rw[<-k];rfl
  obtain⟨i1,d1,h⟩:=ae h;have t:=bf d1;obtain⟨v,p,h⟩:=bl h;have g1:a.map (aA .u)++m.map (aA .u)=v.map (aA .u):=by rw[<-p,List.map_append]
  have w:a.length+1=v.length:=by simp[<-k,<-p]<;>omega
  rw[w] at t;cases h;exact ZL (ZA c (ZA c1 (ZA s (ZA t (ZA g1 w))))) (ZA @co.eq_1 (ZA k.symm (ZA p.symm s)))
 ·obtain⟨j1,x,h⟩:=ae h;try refine ZF c ?_
  first|refine eu (bn (aG (w_as d g j b) x ?_)) (fun τ y=>?_)|refine fM (aG (w_as d g j b) x ?_) (fun τ y=>?_)
  ·exact ZK (ZA @Hi.eq_1 @Bk.eq_1)
  ·cases h;refine ky y (by decide) ?_ rfl;exact ZK (ZA @co.eq_1 @Bk.eq_1)
def Gc(a:af)(b:ar)(v:Int×Int):St:=⟨[(2,.pt 2 0 0),(5,.i v.1),(9,.lst .o 1 (b.Fibers.map AV.i)),(10,.i (b.Fibers.length:Int)),(11,.i v.2)],[(2,.var (.agg [.lst .o 1 (a.Nodes.map AV.z),.lst .o 4 (a.Fibers.map (ah .o))]))]⟩
theorem w_db(a:af)(b:ar)(d:Int×Int)(o:(Int×Int)⊕Int)(h:Vr a b d=some o):AWP (OkS Tryz.prog) Ad (qL [2,5,9,10,11] [2] (Gc a b) (qX 0 [5] [] (lL)) o) (Gc a b d):=by
 have e:=ZA @Gc.eq_1 @lL.eq_1;unfold Vr at h;simp only[ZC,Gc,Ad];obtain⟨c,h⟩|⟨c,h⟩:=au h
 ·obtain⟨j,g,h⟩:=ae h;obtain⟨k,i,h⟩:=ae h;cases h;exact ZL (ZA c (ZA (aP g) (aP i))) e
 ·cases h;exact ZL c e
theorem w_es(a:af)(b:ar){r:Int}(h:Nh a b=some r):Ok Tryz.prog 252 [.agg [.lst .o 1 (a.Nodes.map AV.z),.lst .o 4 (a.Fibers.map (ah .o))],.agg [.i b.Start,.lst .o 1 (b.Fibers.map AV.i)]] (.i r):=by
 refine ax aY m252 rfl ?_;unfold Nh at h;simp only[ZC,A252,V85,aB];obtain⟨d,c,h⟩:=ae h;try refine ZF trivial ?_
 refine aJ (bn (aG (w_db a b) c ?_)) ?_
 ·exact ZK (ZA @Gc.eq_1 @lL.eq_1)
 ·simp only[ZC,lL,Kg];cases h;exact ZL trivial @V85.eq_1
def S_t(s1Z0:List Int)(s2Z0:List Int)(v:Int):St:=⟨[(0,.lst .o 1 (s1Z0.map AV.i)),(1,.lst .o 1 (s2Z0.map AV.i)),(9,.lst .o 1 (s1Z0.map AV.i)),(10,.i (s1Z0.length:Int)),(11,.i v)],[]⟩
def GW(s1Z0:List Int)(s2Z0:List Int)(v:Unit):St:=⟨[(0,.lst .o 1 (s1Z0.map AV.i)),(1,.lst .o 1 (s2Z0.map AV.i))],[]⟩
theorem w_t(s1Z0:List Int)(s2Z0:List Int)(d:Int)(o:Int⊕(Unit⊕Int))(h:M_t s1Z0 s2Z0 d=some o):AWP (OkS Tryz.prog) zp (qL [0,1,9,10,11] [] (S_t s1Z0 s2Z0) (qS (qX 0 [0,1] [] (GW s1Z0 s2Z0)) (qR V85 (fun r=>.i r))) o) (S_t s1Z0 s2Z0 d):=by
 unfold M_t at h;simp only[ZC,S_t,zp];obtain⟨a,h⟩|⟨a,h⟩:=au h
 ·obtain⟨l,g,h⟩:=ae h;obtain⟨b,h⟩|⟨b,h⟩:=au h
  ·cases h;exact ZL (ZA a (ZA (aP g) b)) @V85.eq_1
  ·obtain⟨m,j,h⟩:=ae h;obtain⟨p,k,h⟩:=ae h;have f:=ZA a (ZA (aP g) (ZA b (aP j)));refine ZF f ?_;refine ZSG f (w_u _ _ k) ?_;obtain⟨c,h⟩|⟨c,h⟩:=au h
   ·cases h;exact ZL (ZA f c) @V85.eq_1
   ·cases h;exact ZL (ZA f c) (ZA @S_t.eq_1 @GW.eq_1)
 ·cases h;exact ZL a (ZA @S_t.eq_1 @GW.eq_1)
theorem w_gz(s1Z0:List Int)(s2Z0:List Int){r:Int}(h:Ge s1Z0 s2Z0=some r):Ok Tryz.prog 253 [.lst .o 1 (s1Z0.map AV.i),.lst .o 1 (s2Z0.map AV.i)] (.i r):=by
 refine ax aY m253 rfl ?_;unfold Ge at h;simp only[ZC,A253,V85,aB];obtain⟨b,c,h⟩:=ae h;try refine ZF trivial ?_
 refine bj (o:=b) (bq cy (aG (w_t s1Z0 s2Z0) c ?_)) (fun g hv=>?_) (fun j hv e τ hne hq=>?_)
 ·exact ZK (ZA @S_t.eq_1 @GW.eq_1)
 ·subst hv;simp only[] at h;simp only[ZC,GW,KB];obtain⟨a,h⟩|⟨a,h⟩:=au h
  ·cases h;exact ZL a @V85.eq_1
  ·cases h;exact ZL a @V85.eq_1
 ·subst hv;simp only[] at h;obtain⟨rfl,d⟩:=hq;cases h;exact d
theorem w_ha(c:af)(d:ar)(g:ar){r:Int}(h:Mq c d g=some r):Ok Tryz.prog 244 [.agg [.lst .o 1 (c.Nodes.map AV.z),.lst .o 4 (c.Fibers.map (ah .o))],.agg [.i d.Start,.lst .o 1 (d.Fibers.map AV.i)],.agg [.i g.Start,.lst .o 1 (g.Fibers.map AV.i)]] (.i r):=by
 refine ax aY m244 rfl ?_;unfold Mq at h;simp only[ZC,A244,eI,aB];obtain⟨b1,k,h⟩:=ae h;refine ZF trivial ?_;refine ZSG trivial (w_es _ _ k) ?_;obtain⟨c1,l,h⟩:=ae h;refine ZF trivial ?_;refine ZSG trivial (w_es _ _ l) ?_;obtain⟨m,p,h⟩:=ae h;refine ZF trivial ?_;refine ZSG trivial (w_u _ _ p) ?_;obtain⟨q,s,h⟩:=ae h;refine ZF trivial ?_;refine ZSG trivial (w_u _ _ s) ?_;obtain⟨t,u,h⟩:=ae h;refine ZF trivial ?_;refine ZSG trivial (w_gz _ _ u) ?_;obtain⟨v,w,h⟩:=ae h;refine ZF trivial ?_;refine ZSG trivial (w_u _ _ w) ?_;obtain⟨a,b,h⟩:=bl h;have x:Row.arr 1 [(.i m:AV),(.i q:AV),(.i t:AV),(.i v:AV)]=Row.arr 1 (a.map AV.i):=by rw[<-b];rfl
 have j:a.length=4:=by rw[<-b];rfl
 have y:sub (a.map AV.i) 0 4=a.map AV.i:=sM _ (by simp[<-b]);obtain⟨d1,a1,h⟩:=ae h;have f:=ZA x (ZA j y);refine ZF f ?_;refine ZSG f (w_dh _ a1) ?_;cases h;exact ZL f (ZA @eI.eq_1 (ZA b.symm j))
theorem w_dq(a:ar)(b:ar)(p2Z0:af){r:Int}(h:xM a b p2Z0=some r):Ok Tryz.prog 243 [.agg [.i a.Start,.lst .o 1 (a.Fibers.map AV.i)],.agg [.i b.Start,.lst .o 1 (b.Fibers.map AV.i)],.bp .o (.agg [.lst .o 1 (p2Z0.Nodes.map AV.z),.lst .o 4 (p2Z0.Fibers.map (ah .o))]) 0] (.i r):=by
 refine ax aY m243 rfl ?_;unfold xM at h;simp only[ZC,A243,Wm,aB];obtain⟨d,c,h⟩:=ae h;refine ZF trivial ?_;refine ZSG trivial (w_ha _ _ _ c) ?_;cases h;exact ZL trivial @Wm.eq_1
theorem w_fu(b:af)(g:Int)(j:Int){r:List ar}(h:Ib b g j=some r):Ok Tryz.prog 216 [.agg [.lst .o 1 (b.Nodes.map AV.z),.lst .o 4 (b.Fibers.map (ah .o))],.i g,.i j] (.lst .u 2 (r.map (aA .u))):=by
 refine ax aY m216 rfl ?_;unfold Ib at h;simp only[ZC,A216,eI,aB];obtain⟨a,m,h⟩:=ae h;try refine ZF trivial ?_
 refine aJ (sh:=(fun v=>⟨[(3,.pt 3 0 0),(7,.pt 7 0 0)],[(3,.var (.agg [.lst .o 1 (((v.1).Nodes).map AV.z),.lst .o 4 (((v.1).Fibers).map (ah .o))])),(7,.var (.sl 500000448 0 v.2.length)),(500000448,.arr 2 (v.2.map (aA .u)))]⟩)) (s:=a) ?_ ?_
 ·replace h:=m;obtain⟨c,h⟩|⟨c,h⟩:=au h
  ·obtain⟨w,p,h⟩:=ae h;obtain⟨x,q,h⟩:=ae h;have f:=ZA c (bf p);refine ZF f ?_;refine ZWG f (w_hu _ _ _ _ _ _ _ q) [470000064,1000000000,1000000001,1000000003,1000000004,1000000005] [471900064] ?_;cases h;exact ZL f trivial
  ·cases h;exact ZL c trivial
 ·simp only[ZC,MS];obtain⟨d,k,h⟩:=ae h;have l:d.length=a.2.length:=kR k;refine ZF trivial ?_;refine jv (by simp only[VS1,VS2,VS3,VS4,VS5,VS6,VT1,VT2,bw,bx,decide_true,decide_false,List.nodup_nil,List.nodup_cons,cP,cO,cQ,ne_eq,not_false_eq_true,Int.reduceEq,Int.reduceNe,true_and,false_and,Nat.reduceSub,Nat.reduceMul,↓reduceIte,reduceCtorEq,Nat.reduceEqDiff,Nat.reduceAdd,Nat.reduceLeDiff,Int.reduceLE];exact(IG OB (aA .u) (pC .u) (xs:=a.2) (cmp:=(fun x0 x1=>xM x0 x1 a.1)) (C:=[.bp .o (.agg [.lst .o 1 (a.1.Nodes.map AV.z),.lst .o 4 (a.1.Fibers.map (ah .o))]) 0]) (by simp[List.length_nil]) (by simp only[VS1,VS2,VS3,VS4,VS5,VS6,VT1,VT2,bw,bx,decide_true,decide_false,List.nodup_nil,List.nodup_cons,cP,cO,cQ,ne_eq,not_false_eq_true,Int.reduceEq,Int.reduceNe,true_and,false_and,Nat.reduceSub,Nat.reduceMul,↓reduceIte,reduceCtorEq,Nat.reduceEqDiff,Nat.reduceAdd,Nat.reduceLeDiff,Int.reduceLE,List.map_cons,List.map_nil]) rfl (by simp[Wf,VS1,VS2,VS3,VS4,VS5,VS6,VT1,VT2]) (by simp[VS1,VS2,VS3,VS4,VS5,VS6,VT1,VT2]) ((Va m243)) (fun _ _ _ hq=>by simp only[gC,VS1,VS2,VS3,VS4,VS5,VS6,VT1,VT2,bw,bx,decide_true,decide_false,List.nodup_nil,List.nodup_cons,cP,cO,cQ,ne_eq,not_false_eq_true,Int.reduceEq,Int.reduceNe,true_and,false_and,Nat.reduceSub,Nat.reduceMul,↓reduceIte,reduceCtorEq,Nat.reduceEqDiff,Nat.reduceAdd,Nat.reduceLeDiff,Int.reduceLE];exact w_dq _ _ _ hq) k)) (by simp[VS1,VS2,VS3,VS4,VS5,VS6,VT1,VT2]) (by first|exact re [1000000000,1000000001] rfl (by decide+kernel)|simp[VS1,VS2,VS3,VS4,VS5,VS6,VT1,VT2]) ?_;refine ZG ?_;have t:sub (d.map (aA .u)) 0 a.2.length=d.map (aA .u):=sM _ (by simp[l]);cases h;exact ZL t (ZA @eI.eq_1 l)
theorem w_dg(c:af)(g:Int)(j:Int){r:List ar×Bool}(h:wx c g j=some r):Ok Tryz.prog 175 [.agg [.lst .o 1 (c.Nodes.map AV.z),.lst .o 4 (c.Fibers.map (ah .o))],.i g,.i j] (.tup [.lst .u 2 (r.1.map (aA .u)),.b r.2]):=by
 refine ax aY m175 rfl ?_;unfold wx at h;simp only[ZC,A175,fP,aB];obtain⟨q,t,h⟩:=ae h;try refine ZF trivial ?_
 refine aJ (sh:=(fun v=>⟨[(1,.i g),(2,.i j),(3,.pt 3 0 0),(19,.b v)],[(3,.var (.agg [.lst .o 1 (c.Nodes.map AV.z),.lst .o 4 (c.Fibers.map (ah .o))]))]⟩)) (s:=q) ?_ ?_
 ·replace h:=t;obtain⟨k,d,h⟩:=bl h;have w:Row.arr 1 [(.i g:AV),(.i j:AV)]=Row.arr 1 (k.map AV.i):=by rw[<-d];rfl
  have l:k.length=2:=by rw[<-d];rfl
  have x:sub (k.map AV.i) 0 2=k.map AV.i:=sM _ (by simp[<-d]);obtain⟨b1,y,h⟩:=ae h;have f:=ZA w (ZA l x);refine ZF f ?_;refine ZSG f (w_fw _ _ y) ?_;obtain⟨m,h⟩|⟨m,h⟩:=au h
  ·cases h;exact ZL (ZA f m) (ZA d.symm l)
  ·cases h;exact ZL (ZA f m) (ZA d.symm l)
 ·simp only[ZC,II];obtain⟨a,h⟩|⟨a,h⟩:=au h
  ·cases h;exact ZL a @fP.eq_1
  ·obtain⟨c1,a1,h⟩:=ae h;refine ZF a ?_;refine ZUG a (w_fu _ _ _ a1) ?_;obtain⟨p,h⟩|⟨p,h⟩:=au h
   ·cases h;exact ZL (ZA a p) @fP.eq_1
   ·cases h;exact ZL (ZA a p) @fP.eq_1
def S_s(b:aK)(c:Int×List Int)(a:aq)(v:Int×List Int):St:=⟨[(3,.sl 3 0 v.2.length),(5,.pt 5 0 0),(14,.lst .o 5 (b.Lights.map (ai .o))),(15,.i (b.Lights.length:Int)),(16,.i c.1),(22,.lst .o 1 (a.Route.Fibers.map AV.i)),(23,.i (a.Route.Fibers.length:Int)),(24,.i v.1)],[(3,.arr 1 (v.2.map AV.i)),(5,.var (.agg [.i a.Id,.i a.Route.Start,.lst .o 1 (a.Route.Fibers.map AV.i),.i a.Block.First,.i a.Block.Count]))]⟩
def Qn(a:aK)(b:Int×List Int)(v:List Int):St:=⟨[(3,.sl 3 0 v.length),(14,.lst .o 5 (a.Lights.map (ai .o))),(15,.i (a.Lights.length:Int)),(16,.i b.1)],[(3,.arr 1 (v.map AV.i))]⟩
theorem w_s(a:aK)(b:Int×List Int)(c:aq)(d:Int×List Int)(o:(Int×List Int)⊕(List Int))(h:M_s c d=some o):AWP (OkS Tryz.prog) zQ (qL [3,5,14,15,16,22,23,24] [3,5] (S_s a b c) (qX 2 [3,14,15,16] [3] (Qn a b)) o) (S_s a b c d):=by
 have e:=ZA @S_s.eq_1 @Qn.eq_1;unfold M_s at h;simp only[ZC,S_s,zQ];obtain⟨g,h⟩|⟨g,h⟩:=au h
 ·obtain⟨k,l,h⟩:=ae h;obtain⟨w,m,h⟩:=ae h;obtain⟨p,q,h⟩:=ae h;obtain⟨s,t,h⟩:=ae h;have f:=ZA g (ZA (aP l) (ZA (bf m) q));refine ZF f ?_;refine ZSG f (RX _ t) ?_;obtain⟨u,j,h⟩:=bl h;have v:(d.2.map AV.i).set (Int.toNat k) (.i (bits .or .i64 p s))=u.map AV.i:=by rw[<-j,List.map_set]
  cases h;exact ZL (ZA f v) (ZA e j.symm)
 ·cases h;exact ZL g e
def Nw(a:aK)(v:Int×List Int):St:=⟨[(3,.sl 3 0 v.2.length),(14,.lst .o 5 (a.Lights.map (ai .o))),(15,.i (a.Lights.length:Int)),(16,.i v.1)],[(3,.arr 1 (v.2.map AV.i))]⟩
theorem w_bc(a:aK)(b:Int×List Int)(o:(Int×List Int)⊕(List Int))(h:yL a b=some o):AWP (OkS Tryz.prog) yt (qL [3,14,15,16] [3] (Nw a) (qX 0 [3] [3] (oB)) o) (Nw a b):=by
 have e:=ZA @Nw.eq_1 @oB.eq_1;unfold yL at h;simp only[ZC,Nw,yt];obtain⟨c,h⟩|⟨c,h⟩:=au h
 ·obtain⟨k,l,h⟩:=ae h;try refine ZF c ?_
  refine aJ (sh:=(fun v=>⟨[(3,.sl 3 0 v.length),(14,.lst .o 5 (a.Lights.map (ai .o))),(15,.i (a.Lights.length:Int)),(16,.i b.1)],[(3,.arr 1 (v.map AV.i))]⟩)) (s:=k) ?_ ?_
  ·replace h:=l;obtain⟨d,m,h⟩:=ae h;obtain⟨p,g,h⟩:=ae h;try refine ZF (ZA c (aP m)) ?_
   first|refine eu (bn (aG (w_s a b d) g ?_)) (fun τ j=>?_)|refine fM (aG (w_s a b d) g ?_) (fun τ j=>?_)
   ·exact ZK (ZA @S_s.eq_1 @Qn.eq_1)
   ·cases h;try refine ZF trivial ?_
    refine⟨rfl,Shp.sub j (by decide) (by decide) ?_⟩;exact ZK @Qn.eq_1
  ·simp only[ZC,GH];cases h;exact ZL c e
 ·cases h;exact ZL c e
theorem w_fx(a:aK){r:List Int}(h:FW a=some r):Ok Tryz.prog 219 [.agg [.lst .o 1 (a.Network.Nodes.map AV.z),.lst .o 4 (a.Network.Fibers.map (ah .o)),.lst .o 5 (a.Lights.map (ai .o))]] (.lst .u 1 (r.map AV.i)):=by
 refine ax aY m219 rfl ?_;unfold FW at h;simp only[ZC,A219,V91,aB];obtain⟨k,c,h⟩:=ae h;obtain⟨d,b,h⟩:=bl h;have g:List.replicate (Int.toNat (a.Network.Fibers.length:Int)) (.i 0:AV)=d.map AV.i:=by rw[<-b,List.map_replicate]
 obtain⟨l,j,h⟩:=ae h;have f:=ZA (bf c) g;try refine ZF f ?_
 refine aJ (bn (aG (w_bc a) j ?_)) ?_
 ·exact ZK (ZA @Nw.eq_1 (ZA @oB.eq_1 (ZA b.symm @Zr)))
 ·simp only[ZC,oB,Od];cases h;exact ZL f @V91.eq_1
def S_x(a:ar)(b:List Int)(v:Int×Int):St:=⟨[(5,.sl 5 0 b.length),(6,.i v.1),(12,.lst .o 1 (a.Fibers.map AV.i)),(13,.i (a.Fibers.length:Int)),(14,.i v.2)],[(5,.arr 1 (b.map AV.i))]⟩
def QO(v:Int):St:=⟨[(6,.i v)],[]⟩
theorem w_x(a:ar)(b:List Int)(d:Int×Int)(o:(Int×Int)⊕Int)(h:M_x a b d=some o):AWP (OkS Tryz.prog) zc (qL [5,6,12,13,14] [5] (S_x a b) (qX 0 [6] [] (QO)) o) (S_x a b d):=by
 have e:=ZA @S_x.eq_1 @QO.eq_1;unfold M_x at h;simp only[ZC,S_x,zc];obtain⟨c,h⟩|⟨c,h⟩:=au h
 ·obtain⟨k,g,h⟩:=ae h;obtain⟨l,i,h⟩:=ae h;obtain⟨m,j,h⟩:=ae h;cases h;exact ZL (ZA c (ZA (aP g) (ZA (bf i) j))) e
 ·cases h;exact ZL c e
theorem w_fy(a:aK)(b:ar){r:Int}(h:Iq a b=some r):Ok Tryz.prog 177 [.agg [.lst .o 1 (a.Network.Nodes.map AV.z),.lst .o 4 (a.Network.Fibers.map (ah .o)),.lst .o 5 (a.Lights.map (ai .o))],.agg [.i b.Start,.lst .o 1 (b.Fibers.map AV.i)]] (.i r):=by
 refine ax aY m177 rfl ?_;unfold Iq at h;simp only[ZC,A177,V85,aB];obtain⟨c,d,h⟩:=ae h;refine ZF trivial ?_;refine ZUG trivial (w_fx _ d) ?_;obtain⟨j,g,h⟩:=ae h;try refine ZF trivial ?_
 refine aJ (bn (aG (w_x b c) g ?_)) ?_
 ·exact ZK (ZA @S_x.eq_1 @QO.eq_1)
 ·simp only[ZC,QO,MJ];cases h;exact ZL trivial @V85.eq_1
theorem w_hy(a:Int){r:Bool}(h:OA a=some r):Ok Tryz.prog 245 [.i a] (.b r):=by
 refine ax aY m245 rfl ?_;unfold OA at h;simp only[ZC,A245,V91,aB];obtain⟨d,c,h⟩:=ae h;refine ZF trivial ?_;refine ZSG trivial (w_h _ _ _ c) ?_;cases h;exact ZL trivial @V91.eq_1
theorem w_hx(c:Int)(d:Int){r:Bool}(h:RC c d=some r):Ok Tryz.prog 217 [.i c,.i d] (.b r):=by
 refine ax aY m217 rfl ?_;unfold RC at h;simp only[ZC,A217,V85,aB];obtain⟨k,g,h⟩:=ae h;refine ZF trivial ?_;refine ZSG trivial (w_hy _ g) ?_;obtain⟨a,h⟩|⟨a,h⟩:=au h
 ·obtain⟨l,j,h⟩:=ae h;refine ZF a ?_;refine ZSG a (w_h _ _ _ j) ?_;cases h;exact ZL a @V85.eq_1
 ·cases h;exact ZL a @V85.eq_1
theorem w_ga(d:Int)(g:Int)(b:Int×List Int)(o:(Int×List Int)⊕(List Int))(h:IH d g b=some o):AWP (OkS Tryz.prog) Ae (qL [0,1,5,6] [5] (S_f d g) (qX 0 [5] [5] (oP)) o) (S_f d g b):=by
 have e:=ZA @S_f.eq_1 @oP.eq_1;unfold IH at h;simp only[ZC,S_f,Ae];obtain⟨a,h⟩|⟨a,h⟩:=au h
 ·obtain⟨x,t,h⟩:=ae h;refine ZF a ?_;refine ZSG a (RX _ t) ?_;obtain⟨j,h⟩|⟨j,h⟩:=au h
  ·obtain⟨k,c,h⟩:=bl h;have u:Row.arr 1 [(.i b.1:AV)]=Row.arr 1 (k.map AV.i):=by rw[<-c];rfl
   have m:k.length=1:=by rw[<-c];rfl
   obtain⟨y,v,h⟩:=ae h;have p:=bf v;obtain⟨q,l,h⟩:=bl h;have w:b.2.map AV.i++k.map AV.i=q.map AV.i:=by rw[<-l,List.map_append]
   have s:b.2.length+1=q.length:=by simp[<-c,<-l]<;>omega
   rw[s] at p;cases h;exact ZL (ZA a (ZA j (ZA u (ZA m (ZA p (ZA w s)))))) (ZA e (ZA c.symm (ZA l.symm m)))
  ·cases h;exact ZL (ZA a j) e
 ·cases h;exact ZL a e
theorem w_fz(a:Int)(b:Int){r:List Int}(h:Hh a b=some r):Ok Tryz.prog 218 [.i a,.i b] (.lst .u 1 (r.map AV.i)):=by
 refine ax aY m218 rfl ?_;unfold Hh at h;simp only[ZC,A218,V85,aB];obtain⟨d,c,h⟩:=ae h;try refine ZF trivial ?_
 refine aJ (bn (aG (w_ga a b) c ?_)) ?_
 ·exact ZK (ZA @S_f.eq_1 @oP.eq_1)
 ·simp only[ZC,oP,GU];cases h;exact ZL trivial @V85.eq_1
theorem w_gc(d:Int)(g:Int){r:bc×Bool}(h:GS d g=some r):Ok Tryz.prog 176 [.i d,.i g] (.tup [.agg [.i r.1.First,.i r.1.Count],.b r.2]):=by
 refine ax aY m176 rfl ?_;unfold GS at h;simp only[ZC,A176,Nm,aB];obtain⟨p,j,h⟩:=ae h;refine ZF trivial ?_;refine ZSG trivial (w_hx _ _ j) ?_;obtain⟨a,h⟩|⟨a,h⟩:=au h
 ·cases h;exact ZL a @Nm.eq_1
 ·obtain⟨q,k,h⟩:=ae h;refine ZF a ?_;refine ZUG a (w_fz _ _ k) ?_;obtain⟨c,h⟩|⟨c,h⟩:=au h
  ·cases h;exact ZL (ZA a c) @Nm.eq_1
  ·obtain⟨s,l,h⟩:=ae h;obtain⟨t,m,h⟩:=ae h;cases h;exact ZL (ZA a (ZA c (ZA (bf l) m))) @Nm.eq_1
def Iv(b:aj)(g:Int)(a:aj)(c:aq)(d:List ar×Bool)(v:Int):St:=⟨[(1,.i g),(2,.pt 2 0 0),(4,.pt 4 0 0),(6,.pt 6 0 0),(7,.pt 7 0 0),(51,.sl 9 0 d.1.length),(52,.i (d.1.length:Int)),(53,.i v)],[(2,.var (.agg [.lst .o 1 (b.Plan.Network.Nodes.map AV.z),.lst .o 4 (b.Plan.Network.Fibers.map (ah .o)),.lst .o 5 (b.Plan.Lights.map (ai .o)),.lst .o 5 (b.Home.map (ai .o)),.lst .o 1 (b.Down.map AV.i)])),(4,.var (.agg [.lst .u 1 [],.lst .u 4 [],.lst .u 5 [],.lst .u 5 [],.lst .u 1 []])),(6,.var (.agg [.sl 16 0 a.Plan.Network.Nodes.length,.sl 1016 0 a.Plan.Network.Fibers.length,.sl 2016 0 a.Plan.Lights.length,.sl 3016 0 a.Home.length,.sl 4016 0 a.Down.length])),(7,.var (.agg [.i c.Id,.i c.Route.Start,.lst .o 1 (c.Route.Fibers.map AV.i),.i c.Block.First,.i c.Block.Count])),(9,.arr 2 (d.1.map (aA .u))),(16,.arr 1 (a.Plan.Network.Nodes.map AV.z)),(1016,.arr 4 (a.Plan.Network.Fibers.map (ah .u))),(2016,.arr 5 (a.Plan.Lights.map (ai .u))),(3016,.arr 5 (a.Home.map (ai .u))),(4016,.arr 1 (a.Down.map AV.i))]⟩
def Bw(a:aj)(v:Unit):St:=⟨[(4,.pt 4 0 0),(6,.pt 6 0 0)],[(4,.var (.agg [.lst .u 1 [],.lst .u 4 [],.lst .u 5 [],.lst .u 5 [],.lst .u 1 []])),(6,.var (.agg [.sl 16 0 a.Plan.Network.Nodes.length,.sl 1016 0 a.Plan.Network.Fibers.length,.sl 2016 0 a.Plan.Lights.length,.sl 3016 0 a.Home.length,.sl 4016 0 a.Down.length])),(16,.arr 1 (a.Plan.Network.Nodes.map AV.z)),(1016,.arr 4 (a.Plan.Network.Fibers.map (ah .u))),(2016,.arr 5 (a.Plan.Lights.map (ai .u))),(3016,.arr 5 (a.Home.map (ai .u))),(4016,.arr 1 (a.Down.map AV.i))]⟩
theorem w_al(c:aj)(d:Int)(a:aj)(g:aq)(j:List ar×Bool)(p:Int)(o:Int⊕(Unit⊕(aj×Bool)))(h:DL c d a g j p=some o):AWP (OkS Tryz.prog) yM (qL [1,2,4,6,7,51,52,53] [2,4,6,7,9,16,1016,2016,3016,4016] (Iv c d a g j) (qS (qX 0 [4,6] [4,6,16,1016,2016,3016,4016] (Bw a)) (qR kP (fun r=>.tup [.agg [.lst .u 1 (r.1.Plan.Network.Nodes.map AV.z),.lst .u 4 (r.1.Plan.Network.Fibers.map (ah .u)),.lst .u 5 (r.1.Plan.Lights.map (ai .u)),.lst .u 5 (r.1.Home.map (ai .u)),.lst .u 1 (r.1.Down.map AV.i)],.b r.2]))) o) (Iv c d a g j p):=by
 have e:=ZA @Iv.eq_1 @Bw.eq_1;unfold DL at h;simp only[ZC,Iv,yM];obtain⟨k,h⟩|⟨k,h⟩:=au h
 ·obtain⟨y,q,h⟩:=ae h;obtain⟨a1,s,h⟩:=ae h;obtain⟨b1,t,h⟩:=ae h;have f:=ZA k (ZA (bf q) s);refine ZF f ?_;refine ZUG f (PB _ _ t) ?_;obtain⟨l,h⟩|⟨l,h⟩:=au h
  ·cases h;exact ZL (ZA f l) e
  ·obtain⟨c1,v,h⟩:=ae h;have f:=ZA f l;refine ZF f ?_;refine ZSG f (w_fy _ _ v) ?_;obtain⟨d1,w,h⟩:=ae h;refine ZF f ?_;refine ZUG f (w_gc _ _ w) ?_;obtain⟨m,h⟩|⟨m,h⟩:=au h
   ·obtain⟨g1,x,h⟩:=ae h;have f:=ZA f m;refine ZF f ?_;refine ZUG f (w_ec _ _ x) ?_;cases h;exact ZL f @kP.eq_1
   ·cases h;exact ZL (ZA f m) e
 ·cases h;exact ZL k e
theorem w_ee(a:aj)(d:Int){r:aj×Bool}(h:FQ a d=some r):Ok Tryz.prog 118 [.agg [.lst .o 1 (a.Plan.Network.Nodes.map AV.z),.lst .o 4 (a.Plan.Network.Fibers.map (ah .o)),.lst .o 5 (a.Plan.Lights.map (ai .o)),.lst .o 5 (a.Home.map (ai .o)),.lst .o 1 (a.Down.map AV.i)],.i d] (.tup [.agg [.lst .u 1 (r.1.Plan.Network.Nodes.map AV.z),.lst .u 4 (r.1.Plan.Network.Fibers.map (ah .u)),.lst .u 5 (r.1.Plan.Lights.map (ai .u)),.lst .u 5 (r.1.Home.map (ai .u)),.lst .u 1 (r.1.Down.map AV.i)],.b r.2]):=by
 refine ax aY m118 rfl ?_;unfold FQ at h;simp only[ZC,A118,kP,aB];obtain⟨k,l,h⟩:=ae h;refine ZF trivial ?_;refine ZUG trivial (w_ft _ l) ?_;obtain⟨b1,m,h⟩:=ae h;refine ZF trivial ?_;refine ZSG trivial (w_dm _ _ m) ?_;obtain⟨p,c,h⟩:=ae h;obtain⟨c1,q,h⟩:=ae h;refine ZF (aP c) ?_;refine ZSG (aP c) (w_fn _ _ q) ?_;obtain⟨g,h⟩|⟨g,h⟩:=au h
 ·obtain⟨d1,s,h⟩:=ae h;have f:=ZA (aP c) g;refine ZF f ?_;refine ZUG f (w_ec _ _ s) ?_;cases h;exact ZL f @kP.eq_1
 ·obtain⟨g1,t,h⟩:=ae h;have f:=ZA (aP c) g;refine ZF f ?_;refine ZSG f (Vy _ _ t) ?_;obtain⟨v,w,h⟩:=ae h;refine ZF f ?_;refine ZUG f (w_dg _ _ _ w) ?_;obtain⟨j,h⟩|⟨j,h⟩:=au h
  ·cases h;exact ZL (ZA f j) @kP.eq_1
  ·obtain⟨x,y,h⟩:=ae h;have f:=ZA f j;try refine ZF f ?_
   refine bj (o:=x) (bq cy (aG (w_al a d k p v) y ?_)) (fun i1 hv=>?_) (fun j1 hv e τ hne hq=>?_)
   ·exact ZK (ZA @Iv.eq_1 @Bw.eq_1)
   ·subst hv;simp only[] at h;simp only[ZC,Bw,MI];cases h;exact ZL f @kP.eq_1
   ·subst hv;simp only[] at h;obtain⟨rfl,a1⟩:=hq;cases h;exact a1
theorem w_dl(a:aj)(g:Int){r:aj×Bool×Bool}(h:Ce a g=some r):Ok Tryz.prog 50 [.agg [.lst .o 1 (a.Plan.Network.Nodes.map AV.z),.lst .o 4 (a.Plan.Network.Fibers.map (ah .o)),.lst .o 5 (a.Plan.Lights.map (ai .o)),.lst .o 5 (a.Home.map (ai .o)),.lst .o 1 (a.Down.map AV.i)],.i g] (.tup [.agg [.lst .u 1 (r.1.Plan.Network.Nodes.map AV.z),.lst .u 4 (r.1.Plan.Network.Fibers.map (ah .u)),.lst .u 5 (r.1.Plan.Lights.map (ai .u)),.lst .u 5 (r.1.Home.map (ai .u)),.lst .u 1 (r.1.Down.map AV.i)],.b r.2.1,.b r.2.2]):=by
 refine ax aY m50 rfl ?_;unfold Ce at h;simp only[ZC,A50,nX,aB];obtain⟨j,k,h⟩:=ae h;try refine ZF trivial ?_
 refine aJ (sh:=(fun v=>⟨[(1,.i g),(2,.pt 2 0 0),(4,.pt 4 0 0),(18,.b v)],[(2,.var (.agg [.lst .o 1 (a.Plan.Network.Nodes.map AV.z),.lst .o 4 (a.Plan.Network.Fibers.map (ah .o)),.lst .o 5 (a.Plan.Lights.map (ai .o)),.lst .o 5 (a.Home.map (ai .o)),.lst .o 1 (a.Down.map AV.i)])),(4,.var (.agg [.lst .u 1 [],.lst .u 4 [],.lst .u 5 [],.lst .u 5 [],.lst .u 1 []]))]⟩)) (s:=j) ?_ ?_
 ·replace h:=k;obtain⟨t,l,h⟩:=ae h;refine ZF trivial ?_;refine ZSG trivial (w_fp _ l) ?_;obtain⟨c,h⟩|⟨c,h⟩:=au h
  ·cases h;exact ZL c trivial
  ·obtain⟨w,m,h⟩:=ae h;refine ZF c ?_;refine ZUG c (w_fr _ m) ?_;obtain⟨x,p,h⟩:=ae h;refine ZF c ?_;refine ZSG c (TZ _ _ p) ?_;cases h;exact ZL c trivial
 ·simp only[ZC,ST];obtain⟨d,h⟩|⟨d,h⟩:=au h
  ·cases h;exact ZL d @nX.eq_1
  ·obtain⟨y,q,h⟩:=ae h;refine ZF d ?_;refine ZUG d (w_ee _ _ q) ?_;cases h;exact ZL d @nX.eq_1
def Jb(a:List ByteArray)(b:List ByteArray)(v:Int):St:=⟨[(0,.lst .o 1 (a.map AV.z)),(1,.lst .o 1 (b.map AV.z)),(5,.i v)],[]⟩
theorem w_bu(c:List ByteArray)(d:List ByteArray)(i:Int)(o:Int⊕(Unit⊕Bool))(h:Di c d i=some o):AWP (OkS Tryz.prog) NT (qL [0,1,5] [] (Jb c d) (qS (qX 0 [] [] (bN)) (qR V85 (fun r=>.b r))) o) (Jb c d i):=by
 have e:=ZA @Jb.eq_1 @bN.eq_1;unfold Di at h;simp only[ZC,Jb,NT];obtain⟨a,h⟩|⟨a,h⟩:=au h
 ·obtain⟨l,j,h⟩:=ae h;obtain⟨m,k,h⟩:=ae h;obtain⟨g,h⟩|⟨g,h⟩:=au h
  ·cases h;exact ZL (ZA a (ZA (aP j) (ZA (aP k) g))) @V85.eq_1
  ·cases h;exact ZL (ZA a (ZA (aP j) (ZA (aP k) g))) e
 ·cases h;exact ZL a e
theorem w_gf(c:List ByteArray)(d:List ByteArray){r:Bool}(h:IA c d=some r):Ok Tryz.prog 99 [.lst .o 1 (c.map AV.z),.lst .o 1 (d.map AV.z)] (.b r):=by
 refine ax aY m99 rfl ?_;unfold IA at h;simp only[ZC,A99,V85,aB];obtain⟨a,h⟩|⟨a,h⟩:=au h
 ·cases h;exact ZL a @V85.eq_1
 ·obtain⟨g,i,h⟩:=ae h;try refine ZF a ?_
  refine bj (o:=g) (bq cy (aG (w_bu c d) i ?_)) (fun k hv=>?_) (fun l hv e τ hne hq=>?_)
  ·exact ZK (ZA @Jb.eq_1 @bN.eq_1)
  ·subst hv;simp only[] at h;simp only[ZC,bN,TF];cases h;exact ZL a @V85.eq_1
  ·subst hv;simp only[] at h;obtain⟨rfl,j⟩:=hq;cases h;exact j
theorem w_ei(c:ay)(d:ay){r:Bool}(h:FB c d=some r):Ok Tryz.prog 158 [.agg [.i c.A,.i c.B,.i c.Length,.i c.Risk],.agg [.i d.A,.i d.B,.i d.Length,.i d.Risk]] (.b r):=by
 have e:=@V85.eq_1;refine ax aY m158 rfl ?_;unfold FB at h;simp only[ZC,A158,V85,aB];obtain⟨a,h⟩|⟨a,h⟩:=au h
 ·cases h;exact ZL a e
 ·obtain⟨g,h⟩|⟨g,h⟩:=au h
  ·cases h;exact ZL (ZA a g) e
  ·obtain⟨j,h⟩|⟨j,h⟩:=au h
   ·cases h;exact ZL (ZA a (ZA g j)) e
   ·obtain⟨k,h⟩|⟨k,h⟩:=au h
    ·cases h;exact ZL (ZA a (ZA g (ZA j k))) e
    ·cases h;exact ZL (ZA a (ZA g (ZA j k))) e
def LT(a:List ay)(b:List ay)(v:Int):St:=⟨[(0,.lst .o 4 (a.map (ah .o))),(1,.lst .o 4 (b.map (ah .o))),(5,.i v)],[]⟩
theorem w_bv(a:List ay)(c:List ay)(i:Int)(o:Int⊕(Unit⊕Bool))(h:Ew a c i=some o):AWP (OkS Tryz.prog) xR (qL [0,1,5] [] (LT a c) (qS (qX 0 [] [] (bN)) (qR V85 (fun r=>.b r))) o) (LT a c i):=by
 have e:=ZA @LT.eq_1 @bN.eq_1;unfold Ew at h;simp only[ZC,LT,xR];obtain⟨d,h⟩|⟨d,h⟩:=au h
 ·obtain⟨m,j,h⟩:=ae h;obtain⟨p,k,h⟩:=ae h;obtain⟨q,l,h⟩:=ae h;have f:=ZA d (ZA (aP j) (aP k));refine ZF f ?_;refine ZSG f (w_ei _ _ l) ?_;obtain⟨g,h⟩|⟨g,h⟩:=au h
  ·cases h;exact ZL (ZA f g) @V85.eq_1
  ·cases h;exact ZL (ZA f g) e
 ·cases h;exact ZL d e
theorem w_gi(c:List ay)(d:List ay){r:Bool}(h:Og c d=some r):Ok Tryz.prog 100 [.lst .o 4 (c.map (ah .o)),.lst .o 4 (d.map (ah .o))] (.b r):=by
 refine ax aY m100 rfl ?_;unfold Og at h;simp only[ZC,A100,V85,aB];obtain⟨a,h⟩|⟨a,h⟩:=au h
 ·cases h;exact ZL a @V85.eq_1
 ·obtain⟨g,i,h⟩:=ae h;try refine ZF a ?_
  refine bj (o:=g) (bq cy (aG (w_bv c d) i ?_)) (fun k hv=>?_) (fun l hv e τ hne hq=>?_)
  ·exact ZK (ZA @LT.eq_1 @bN.eq_1)
  ·subst hv;simp only[] at h;simp only[ZC,bN,Ix];cases h;exact ZL a @V85.eq_1
  ·subst hv;simp only[] at h;obtain⟨rfl,j⟩:=hq;cases h;exact j
theorem w_gl(c:af)(d:af){r:Bool}(h:Iw c d=some r):Ok Tryz.prog 40 [.agg [.lst .o 1 (c.Nodes.map AV.z),.lst .o 4 (c.Fibers.map (ah .o))],.agg [.lst .o 1 (d.Nodes.map AV.z),.lst .o 4 (d.Fibers.map (ah .o))]] (.b r):=by
 refine ax aY m40 rfl ?_;unfold Iw at h;simp only[ZC,A40,V85,aB];obtain⟨k,i,h⟩:=ae h;refine ZF trivial ?_;refine ZSG trivial (w_gf _ _ i) ?_;obtain⟨a,h⟩|⟨a,h⟩:=au h
 ·cases h;exact ZL a @V85.eq_1
 ·obtain⟨l,j,h⟩:=ae h;refine ZF a ?_;refine ZSG a (w_gi _ _ j) ?_;obtain⟨g,h⟩|⟨g,h⟩:=au h
  ·cases h;exact ZL (ZA a g) @V85.eq_1
  ·cases h;exact ZL (ZA a g) @V85.eq_1
def KN(a:List Int)(b:List Int)(v:Int):St:=⟨[(0,.lst .o 1 (a.map AV.i)),(1,.lst .o 1 (b.map AV.i)),(5,.i v)],[]⟩
theorem w_bw(c:List Int)(d:List Int)(i:Int)(o:Int⊕(Unit⊕Bool))(h:Cf c d i=some o):AWP (OkS Tryz.prog) FU (qL [0,1,5] [] (KN c d) (qS (qX 0 [] [] (bN)) (qR V85 (fun r=>.b r))) o) (KN c d i):=by
 have e:=ZA @KN.eq_1 @bN.eq_1;unfold Cf at h;simp only[ZC,KN,FU];obtain⟨a,h⟩|⟨a,h⟩:=au h
 ·obtain⟨l,j,h⟩:=ae h;obtain⟨m,k,h⟩:=ae h;obtain⟨g,h⟩|⟨g,h⟩:=au h
  ·cases h;exact ZL (ZA a (ZA (aP j) (ZA (aP k) g))) @V85.eq_1
  ·cases h;exact ZL (ZA a (ZA (aP j) (ZA (aP k) g))) e
 ·cases h;exact ZL a e
theorem w_dv(c:List Int)(d:List Int){r:Bool}(h:Fp c d=some r):Ok Tryz.prog 20 [.lst .o 1 (c.map AV.i),.lst .o 1 (d.map AV.i)] (.b r):=by
 refine ax aY m20 rfl ?_;unfold Fp at h;simp only[ZC,A20,V85,aB];obtain⟨a,h⟩|⟨a,h⟩:=au h
 ·cases h;exact ZL a @V85.eq_1
 ·obtain⟨g,j,h⟩:=ae h;try refine ZF a ?_
  refine bj (o:=g) (bq cy (aG (w_bw c d) j ?_)) (fun l hv=>?_) (fun m hv e τ hne hq=>?_)
  ·exact ZK (ZA @KN.eq_1 @bN.eq_1)
  ·subst hv;simp only[] at h;simp only[ZC,bN,TB];cases h;exact ZL a @V85.eq_1
  ·subst hv;simp only[] at h;obtain⟨rfl,k⟩:=hq;cases h;exact k
theorem w_go(c:ar)(d:ar){r:Bool}(h:KA c d=some r):Ok Tryz.prog 159 [.agg [.i c.Start,.lst .o 1 (c.Fibers.map AV.i)],.agg [.i d.Start,.lst .o 1 (d.Fibers.map AV.i)]] (.b r):=by
 refine ax aY m159 rfl ?_;unfold KA at h;simp only[ZC,A159,V85,aB];obtain⟨a,h⟩|⟨a,h⟩:=au h
 ·cases h;exact ZL a @V85.eq_1
 ·obtain⟨k,j,h⟩:=ae h;refine ZF a ?_;refine ZSG a (w_dv _ _ j) ?_;obtain⟨g,h⟩|⟨g,h⟩:=au h
  ·cases h;exact ZL (ZA a g) @V85.eq_1
  ·cases h;exact ZL (ZA a g) @V85.eq_1
theorem w_gq(c:bc)(d:bc){r:Bool}(h:Jx c d=some r):Ok Tryz.prog 160 [.agg [.i c.First,.i c.Count],.agg [.i d.First,.i d.Count]] (.b r):=by
 refine ax aY m160 rfl ?_;unfold Jx at h;simp only[ZC,A160,V85,aB];obtain⟨a,h⟩|⟨a,h⟩:=au h
 ·cases h;exact ZL a @V85.eq_1
 ·obtain⟨g,h⟩|⟨g,h⟩:=au h
  ·cases h;exact ZL (ZA a g) @V85.eq_1
  ·cases h;exact ZL (ZA a g) @V85.eq_1
theorem w_ek(a:aq)(c:aq){r:Bool}(h:Ef a c=some r):Ok Tryz.prog 136 [.agg [.i a.Id,.i a.Route.Start,.lst .o 1 (a.Route.Fibers.map AV.i),.i a.Block.First,.i a.Block.Count],.agg [.i c.Id,.i c.Route.Start,.lst .o 1 (c.Route.Fibers.map AV.i),.i c.Block.First,.i c.Block.Count]] (.b r):=by
 have e:=@V85.eq_1;refine ax aY m136 rfl ?_;unfold Ef at h;simp only[ZC,A136,V85,aB];obtain⟨d,h⟩|⟨d,h⟩:=au h
 ·cases h;exact ZL d e
 ·obtain⟨m,k,h⟩:=ae h;refine ZF d ?_;refine ZSG d (w_go _ _ k) ?_;obtain⟨g,h⟩|⟨g,h⟩:=au h
  ·cases h;exact ZL (ZA d g) e
  ·obtain⟨p,l,h⟩:=ae h;have f:=ZA d g;refine ZF f ?_;refine ZSG f (w_gq _ _ l) ?_;obtain⟨j,h⟩|⟨j,h⟩:=au h
   ·cases h;exact ZL (ZA f j) e
   ·cases h;exact ZL (ZA f j) e
def GL(a:List aq)(b:List aq)(v:Int):St:=⟨[(0,.lst .o 5 (a.map (ai .o))),(1,.lst .o 5 (b.map (ai .o))),(5,.i v)],[]⟩
theorem w_bx(a:List aq)(c:List aq)(i:Int)(o:Int⊕(Unit⊕Bool))(h:EY a c i=some o):AWP (OkS Tryz.prog) IW (qL [0,1,5] [] (GL a c) (qS (qX 0 [] [] (bN)) (qR V85 (fun r=>.b r))) o) (GL a c i):=by
 have e:=ZA @GL.eq_1 @bN.eq_1;unfold EY at h;simp only[ZC,GL,IW];obtain⟨d,h⟩|⟨d,h⟩:=au h
 ·obtain⟨m,j,h⟩:=ae h;obtain⟨p,k,h⟩:=ae h;obtain⟨q,l,h⟩:=ae h;have f:=ZA d (ZA (aP j) (aP k));refine ZF f ?_;refine ZSG f (w_ek _ _ l) ?_;obtain⟨g,h⟩|⟨g,h⟩:=au h
  ·cases h;exact ZL (ZA f g) @V85.eq_1
  ·cases h;exact ZL (ZA f g) e
 ·cases h;exact ZL d e
theorem w_dy(c:List aq)(d:List aq){r:Bool}(h:Fj c d=some r):Ok Tryz.prog 70 [.lst .o 5 (c.map (ai .o)),.lst .o 5 (d.map (ai .o))] (.b r):=by
 refine ax aY m70 rfl ?_;unfold Fj at h;simp only[ZC,A70,V85,aB];obtain⟨a,h⟩|⟨a,h⟩:=au h
 ·cases h;exact ZL a @V85.eq_1
 ·obtain⟨g,i,h⟩:=ae h;try refine ZF a ?_
  refine bj (o:=g) (bq cy (aG (w_bx c d) i ?_)) (fun k hv=>?_) (fun l hv e τ hne hq=>?_)
  ·exact ZK (ZA @GL.eq_1 @bN.eq_1)
  ·subst hv;simp only[] at h;simp only[ZC,bN,SX];cases h;exact ZL a @V85.eq_1
  ·subst hv;simp only[] at h;obtain⟨rfl,j⟩:=hq;cases h;exact j
theorem w_gu(c:aK)(d:aK){r:Bool}(h:Nd c d=some r):Ok Tryz.prog 28 [.agg [.lst .o 1 (c.Network.Nodes.map AV.z),.lst .o 4 (c.Network.Fibers.map (ah .o)),.lst .o 5 (c.Lights.map (ai .o))],.agg [.lst .o 1 (d.Network.Nodes.map AV.z),.lst .o 4 (d.Network.Fibers.map (ah .o)),.lst .o 5 (d.Lights.map (ai .o))]] (.b r):=by
 refine ax aY m28 rfl ?_;unfold Nd at h;simp only[ZC,A28,V85,aB];obtain⟨k,i,h⟩:=ae h;refine ZF trivial ?_;refine ZSG trivial (w_gl _ _ i) ?_;obtain⟨a,h⟩|⟨a,h⟩:=au h
 ·cases h;exact ZL a @V85.eq_1
 ·obtain⟨l,j,h⟩:=ae h;refine ZF a ?_;refine ZSG a (w_dy _ _ j) ?_;obtain⟨g,h⟩|⟨g,h⟩:=au h
  ·cases h;exact ZL (ZA a g) @V85.eq_1
  ·cases h;exact ZL (ZA a g) @V85.eq_1
theorem Pq(a:aj)(c:aj){r:Bool}(h:xg a c=some r):Ok Tryz.prog 17 [.agg [.lst .o 1 (a.Plan.Network.Nodes.map AV.z),.lst .o 4 (a.Plan.Network.Fibers.map (ah .o)),.lst .o 5 (a.Plan.Lights.map (ai .o)),.lst .o 5 (a.Home.map (ai .o)),.lst .o 1 (a.Down.map AV.i)],.agg [.lst .o 1 (c.Plan.Network.Nodes.map AV.z),.lst .o 4 (c.Plan.Network.Fibers.map (ah .o)),.lst .o 5 (c.Plan.Lights.map (ai .o)),.lst .o 5 (c.Home.map (ai .o)),.lst .o 1 (c.Down.map AV.i)]] (.b r):=by
 refine ax aY m17 rfl ?_;unfold xg at h;simp only[ZC,A17,V85,aB];obtain⟨p,k,h⟩:=ae h;refine ZF trivial ?_;refine ZSG trivial (w_gu _ _ k) ?_;obtain⟨d,h⟩|⟨d,h⟩:=au h
 ·cases h;exact ZL d @V85.eq_1
 ·obtain⟨q,l,h⟩:=ae h;refine ZF d ?_;refine ZSG d (w_dy _ _ l) ?_;obtain⟨g,h⟩|⟨g,h⟩:=au h
  ·cases h;exact ZL (ZA d g) @V85.eq_1
  ·obtain⟨s,m,h⟩:=ae h;have f:=ZA d g;refine ZF f ?_;refine ZSG f (w_dv _ _ m) ?_;obtain⟨j,h⟩|⟨j,h⟩:=au h
   ·cases h;exact ZL (ZA f j) @V85.eq_1
   ·cases h;exact ZL (ZA f j) @V85.eq_1
def IR(v:Int×ByteArray):St:=⟨[(0,.i v.1),(3,.z v.2)],[]⟩
def Bi(v:ByteArray):St:=⟨[(3,.z v)],[]⟩
theorem w_ab(c:Int×ByteArray)(o:(Int×ByteArray)⊕ByteArray)(h:CK c=some o):AWP (OkS Tryz.prog) zl (qL [0,3] [] (IR) (qX 0 [3] [] (Bi)) o) (IR c):=by
 have e:=ZA @IR.eq_1 @Bi.eq_1;unfold CK at h;simp only[ZC,IR,zl];obtain⟨d,h⟩|⟨d,h⟩:=au h
 ·obtain⟨p,i,h⟩:=ae h;obtain⟨a,b,h⟩:=bl h;have j:Row.arr 1 [(.sc (.int .u8 (IntKind.wrap .u8 (IntKind.wrap .i64 (48+(Int.tmod c.1 10))))):AV)]=Row.arr 1 (a.map AV.u8):=by rw[<-b];rfl
  have g:a.length=1:=by rw[<-b];rfl
  have k:sub (a.map AV.u8) 0 1=a.map AV.u8:=sM _ (by simp[<-b]);obtain⟨q,l,h⟩:=ae h;obtain⟨s,m,h⟩:=ae h;cases h;exact ZL (ZA d (ZA (bf i) (ZA j (ZA g (ZA k (ZA (bf l) (bf m))))))) (ZA e (ZA b.symm g))
 ·cases h;exact ZL d e
theorem w_ct(b:Int){r:ByteArray}(h:wU b=some r):Ok Tryz.prog 161 [.i b] (.z r):=by
 refine ax aY m161 rfl ?_;unfold wU at h;simp only[ZC,A161,V91,aB];obtain⟨a,h⟩|⟨a,h⟩:=au h
 ·cases h;exact ZL a @V91.eq_1
 ·obtain⟨g,c,h⟩:=ae h;try refine ZF a ?_
  refine aJ (bn (aG (w_ab) c ?_)) ?_
  ·exact ZK (ZA @IR.eq_1 @Bi.eq_1)
  ·simp only[ZC,Bi,Mr];obtain⟨j,d,h⟩:=ae h;cases h;exact ZL (ZA a (bf d)) @V91.eq_1
def ML(v:Int×Int×List ByteArray):St:=⟨[(0,.sl 1000000000 0 v.2.2.length),(1,.i v.1),(5,.i v.2.1)],[(1000000000,.arr 1 (v.2.2.map AV.z))]⟩
def Bp(v:Int×List ByteArray):St:=⟨[(1,.i v.1)],[(1000000000,.arr 1 (v.2.map AV.z))]⟩
theorem w_ae(b:Int×Int×List ByteArray)(o:(Int×Int×List ByteArray)⊕(Int×List ByteArray))(h:Du b=some o):AWP (OkS Tryz.prog) qj (qL [0,1,5] [1000000000] (ML) (qX 0 [1] [1000000000] (Bp)) o) (ML b):=by
 have e:=ZA @ML.eq_1 @Bp.eq_1;unfold Du at h;simp only[ZC,ML,qj];obtain⟨a,h⟩|⟨a,h⟩:=au h
 ·obtain⟨d,g,h⟩:=ae h;refine ZF a ?_;refine ZSG a (w_ct _ g) ?_;obtain⟨m,i,h⟩:=ae h;obtain⟨p,j,h⟩:=ae h;obtain⟨k,c,h⟩:=bl h;have l:(b.2.2.map AV.z).set (Int.toNat b.2.1) (.z d)=k.map AV.z:=by rw[<-c,List.map_set]
  cases h;exact ZL (ZA a (ZA (bf i) (ZA j l))) (ZA e c.symm)
 ·cases h;exact ZL a e
theorem w_gw(b:Int)(a:List ByteArray){r:Int×List ByteArray}(h:Gx b a=some r):OkM Tryz.prog 102 [.sl 1000000000 0 a.length,.i b] [(1000000000,.arr 1 (a.map AV.z))] (.i r.1) ([(1000000000,.arr 1 (r.2.map AV.z))]):=by
 refine bJ (lr:=[1000000000]) aY Ws rfl rfl ?_;unfold Gx at h;simp only[ZC,Mz,V85];obtain⟨d,c,h⟩:=ae h;try refine ZF trivial ?_
 refine aJ (bn (aG (w_ae) c ?_)) ?_
 ·exact ZK (ZA @ML.eq_1 @Bp.eq_1)
 ·simp only[ZC,Bp,wN];cases h;exact ZL trivial @V85.eq_1
def Kj(v:Int×Int×List ay):St:=⟨[(0,.sl 1000000000 0 v.2.2.length),(1,.i v.1),(5,.i v.2.1)],[(1000000000,.arr 4 (v.2.2.map (ah .u)))]⟩
def Bj(v:Int×List ay):St:=⟨[(1,.i v.1)],[(1000000000,.arr 4 (v.2.map (ah .u)))]⟩
theorem w_af(a:Int×Int×List ay)(o:(Int×Int×List ay)⊕(Int×List ay))(h:Fn a=some o):AWP (OkS Tryz.prog) rv (qL [0,1,5] [1000000000] (Kj) (qX 0 [1] [1000000000] (Bj)) o) (Kj a):=by
 have e:=ZA @Kj.eq_1 @Bj.eq_1;unfold Fn at h;simp only[ZC,Kj,rv];obtain⟨b,h⟩|⟨b,h⟩:=au h
 ·obtain⟨i1,v,h⟩:=ae h;obtain⟨c,w,h⟩:=ae h;obtain⟨k,l,h⟩:=bl h;have x:(a.2.2.map (ah .u)).set (Int.toNat a.2.1) (.agg [.i a.1,.i c.B,.i c.Length,.i c.Risk])=k.map (ah .u):=by rw[<-l,List.map_set];rfl
  obtain⟨d,y,h⟩:=ae h;obtain⟨m,p,h⟩:=bl h;have z:(k.map (ah .u)).set (Int.toNat a.2.1) (.agg [.i d.A,.i (IntKind.wrap .i64 (a.1+1)),.i d.Length,.i d.Risk])=m.map (ah .u):=by rw[<-p,List.map_set];rfl
  obtain⟨g,a1,h⟩:=ae h;obtain⟨q,s,h⟩:=bl h;have b1:(m.map (ah .u)).set (Int.toNat a.2.1) (.agg [.i g.A,.i g.B,.i (IntKind.wrap .i64 ((IntKind.wrap .i64 (a.1+1))+1)),.i g.Risk])=q.map (ah .u):=by rw[<-s,List.map_set];rfl
  obtain⟨j,c1,h⟩:=ae h;obtain⟨d1,t,h⟩:=bl h;have g1:(q.map (ah .u)).set (Int.toNat a.2.1) (.agg [.i j.A,.i j.B,.i j.Length,.i (IntKind.wrap .i64 ((IntKind.wrap .i64 ((IntKind.wrap .i64 (a.1+1))+1))+1))])=d1.map (ah .u):=by rw[<-t,List.map_set];rfl
  cases h;exact ZL (ZA b (ZA (bf v) (ZA w (ZA x (ZA y (ZA z (ZA a1 (ZA b1 (ZA c1 g1))))))))) (ZA e (ZA l.symm (ZA p.symm (ZA s.symm t.symm))))
 ·cases h;exact ZL b e
theorem w_gx(b:Int)(a:List ay){r:Int×List ay}(h:HM b a=some r):OkM Tryz.prog 103 [.sl 1000000000 0 a.length,.i b] [(1000000000,.arr 4 (a.map (ah .u)))] (.i r.1) ([(1000000000,.arr 4 (r.2.map (ah .u)))]):=by
 refine bJ (lr:=[1000000000]) aY UY rfl rfl ?_;unfold HM at h;simp only[ZC,Np,V85];obtain⟨d,c,h⟩:=ae h;try refine ZF trivial ?_
 refine aJ (bn (aG (w_af) c ?_)) ?_
 ·exact ZK (ZA @Kj.eq_1 @Bj.eq_1)
 ·simp only[ZC,Bj,xm];cases h;exact ZL trivial @V85.eq_1
theorem w_gy(c:Int)(a:List ByteArray)(b:List ay){r:Int×List ByteArray×List ay}(h:MP c a b=some r):OkM Tryz.prog 42 [.agg [.sl 1000000000 0 a.length,.sl 1000000001 0 b.length],.i c] [(1000000000,.arr 1 (a.map AV.z)),(1000000001,.arr 4 (b.map (ah .u)))] (.i r.1) ([(1000000000,.arr 1 (r.2.1.map AV.z)),(1000000001,.arr 4 (r.2.2.map (ah .u)))]):=by
 refine bJ (lr:=[1000000000,1000000001]) aY Xg rfl rfl ?_;unfold MP at h;simp only[ZC,SU,V85];obtain⟨j,d,h⟩:=ae h;refine ZF trivial ?_;refine ZWG trivial (w_gw _ _ d) [1000000000] [] ?_;obtain⟨k,g,h⟩:=ae h;refine ZF trivial ?_;refine ZWG trivial (w_gx _ _ g) [1000000000] [] ?_;cases h;exact ZL trivial @V85.eq_1
def MG(v:Int×Int×List Int):St:=⟨[(0,.sl 1000000000 0 v.2.2.length),(1,.i v.1),(5,.i v.2.1)],[(1000000000,.arr 1 (v.2.2.map AV.i))]⟩
def Be(v:Int×List Int):St:=⟨[(1,.i v.1)],[(1000000000,.arr 1 (v.2.map AV.i))]⟩
theorem w_ag(a:Int×Int×List Int)(o:(Int×Int×List Int)⊕(Int×List Int))(h:Dx a=some o):AWP (OkS Tryz.prog) tR (qL [0,1,5] [1000000000] (MG) (qX 0 [1] [1000000000] (Be)) o) (MG a):=by
 have e:=ZA @MG.eq_1 @Be.eq_1;unfold Dx at h;simp only[ZC,MG,tR];obtain⟨b,h⟩|⟨b,h⟩:=au h
 ·obtain⟨l,d,h⟩:=ae h;obtain⟨m,g,h⟩:=ae h;obtain⟨j,c,h⟩:=bl h;have k:(a.2.2.map AV.i).set (Int.toNat a.2.1) (.i a.1)=j.map AV.i:=by rw[<-c,List.map_set]
  cases h;exact ZL (ZA b (ZA (bf d) (ZA g k))) (ZA e c.symm)
 ·cases h;exact ZL b e
theorem w_dz(b:Int)(a:List Int){r:Int×List Int}(h:CE b a=some r):OkM Tryz.prog 22 [.sl 1000000000 0 a.length,.i b] [(1000000000,.arr 1 (a.map AV.i))] (.i r.1) ([(1000000000,.arr 1 (r.2.map AV.i))]):=by
 refine bJ (lr:=[1000000000]) aY WY rfl rfl ?_;unfold CE at h;simp only[ZC,TP,V85];obtain⟨d,c,h⟩:=ae h;try refine ZF trivial ?_
 refine aJ (bn (aG (w_ag) c ?_)) ?_
 ·exact ZK (ZA @MG.eq_1 @Be.eq_1)
 ·simp only[ZC,Be,AR];cases h;exact ZL trivial @V85.eq_1
def HT(v:Int×Int×List aq):St:=⟨[(0,.sl 1000000000 0 v.2.2.length),(1,.i v.1),(5,.i v.2.1)],[(1000000000,.arr 5 (v.2.2.map (ai .u)))]⟩
def AQ(v:Int×List aq):St:=⟨[(1,.i v.1)],[(1000000000,.arr 5 (v.2.map (ai .u)))]⟩
theorem w_ah(a:Int×Int×List aq)(o:(Int×Int×List aq)⊕(Int×List aq))(h:Ck a=some o):AWP (OkS Tryz.prog) um (qL [0,1,5] [1000000000] (HT) (qX 0 [1] [1000000000] (AQ)) o) (HT a):=by
 have e:=ZA @HT.eq_1 @AQ.eq_1;unfold Ck at h;simp only[ZC,HT,um];obtain⟨d,h⟩|⟨d,h⟩:=au h
 ·obtain⟨w1,l1,h⟩:=ae h;obtain⟨m,p⟩:=bf l1;obtain⟨g,q,h⟩:=ae h;obtain⟨s,t,h⟩:=bl h;have w:(a.2.2.map (ai .u)).set (Int.toNat a.2.1) (.agg [.i a.1,.i g.Route.Start,.lst .u 1 (g.Route.Fibers.map AV.i),.i g.Block.First,.i g.Block.Count])=s.map (ai .u):=by rw[<-t,List.map_set];rfl
  obtain⟨j,x,h⟩:=ae h;obtain⟨y,a1,h⟩:=bl h;have b1:(s.map (ai .u)).set (Int.toNat a.2.1) (.agg [.i j.Id,.i (IntKind.wrap .i64 (a.1+1)),.lst .u 1 (j.Route.Fibers.map AV.i),.i j.Block.First,.i j.Block.Count])=y.map (ai .u):=by rw[<-a1,List.map_set];rfl
  obtain⟨b,c1,h⟩:=ae h;obtain⟨c,m1,h⟩:=ae h;obtain⟨d1,g1,h⟩:=bl h;have p1:(y.map (ai .u)).set (Int.toNat a.2.1) (.agg [.i b.Id,.i b.Route.Start,.lst .u 1 (c.2.map AV.i),.i b.Block.First,.i b.Block.Count])=d1.map (ai .u):=by rw[<-g1,List.map_set];rfl
  have f:=ZA d (ZA m (ZA p (ZA q (ZA w (ZA x (ZA b1 c1))))));refine ZF f ?_;refine Xs (v:=.int .i64 c.1) (ys':=c.2.map AV.i) (z:=.agg [.i b.Id,.i b.Route.Start,.lst .u 1 (c.2.map AV.i),.i b.Block.First,.i b.Block.Count]) (by simp only[VS1,VS2,VS3,VS4,VS5,VS6,VT1,VT2,bw,bx,decide_true,decide_false,List.nodup_nil,List.nodup_cons,cP,cO,cQ,ne_eq,not_false_eq_true,Int.reduceEq,Int.reduceNe,true_and,false_and,Nat.reduceSub,Nat.reduceMul,↓reduceIte,reduceCtorEq,Nat.reduceEqDiff,Nat.reduceAdd,Nat.reduceLeDiff,Int.reduceLE,d,m,p,q,w,x,b1,c1];exact w_dz _ _ m1) (by simp[AV.flat,VT1,VT2]) (by simp[sP,nw,eK,cE,dq,nB,su,th,sX,nz,cG,cd,eL,cJ,kS,dh,cH,ce,kT,lp,iO,dr,di,dl,df,cF,dm,cI,dp,dg,dj,VZ1]) (by simp[VS1,VS2,VS3,VS4,VS5,VS6,VT1,VT2]) (by simp[AV.flat,VT1,VT2]) rfl ?_;refine ZG ?_;obtain⟨k,q1,h⟩:=ae h;obtain⟨i1,j1,h⟩:=bl h;have s1:(d1.map (ai .u)).set (Int.toNat a.2.1) (.agg [.i k.Id,.i k.Route.Start,.lst .u 1 (k.Route.Fibers.map AV.i),.i c.1,.i k.Block.Count])=i1.map (ai .u):=by rw[<-j1,List.map_set];rfl
  obtain⟨l,t1,h⟩:=ae h;obtain⟨u1,k1,h⟩:=bl h;have v1:(i1.map (ai .u)).set (Int.toNat a.2.1) (.agg [.i l.Id,.i l.Route.Start,.lst .u 1 (l.Route.Fibers.map AV.i),.i l.Block.First,.i (IntKind.wrap .i64 (c.1+1))])=u1.map (ai .u):=by rw[<-k1,List.map_set];rfl
  cases h;exact ZL (ZA f (ZA p1 (ZA q1 (ZA s1 (ZA t1 v1))))) (ZA e (ZA t.symm (ZA a1.symm (ZA g1.symm (ZA j1.symm k1.symm)))))
 ·cases h;exact ZL d e
theorem QF(b:Int)(a:List aq){r:Int×List aq}(h:Ej b a=some r):OkH Tryz.prog 73 [.sl 1000000000 0 a.length,.i b] [(1000000000,.arr 5 (a.map (ai .u)))] (.i r.1) ([(1000000000,.arr 5 (r.2.map (ai .u)))]):=by
 refine kg (lr:=[1000000000]) aY Xe rfl ?_;unfold Ej at h;simp only[ZC,Te,V85];obtain⟨d,c,h⟩:=ae h;try refine ZF trivial ?_
 refine aJ (bn (aG (w_ah) c ?_)) ?_
 ·exact ZK (ZA @HT.eq_1 @AQ.eq_1)
 ·simp only[ZC,AQ,BN];cases h;exact ZL trivial @V85.eq_1
theorem w_eq(d:Int)(a:List ByteArray)(b:List ay)(c:List aq){r:Int×List ByteArray×List ay×List aq}(h:Oc d a b c=some r):OkH Tryz.prog 29 [.agg [.sl 1000000000 0 a.length,.sl 1000000001 0 b.length,.sl 1000000002 0 c.length],.i d] [(1000000000,.arr 1 (a.map AV.z)),(1000000001,.arr 4 (b.map (ah .u))),(1000000002,.arr 5 (c.map (ai .u)))] (.i r.1) ([(1000000000,.arr 1 (r.2.1.map AV.z)),(1000000001,.arr 4 (r.2.2.1.map (ah .u))),(1000000002,.arr 5 (r.2.2.2.map (ai .u)))]):=by
 refine kg (lr:=[1000000000,1000000001,1000000002]) aY Xi rfl ?_;unfold Oc at h;simp only[ZC,SG,V85];obtain⟨k,j,h⟩:=ae h;refine ZF trivial ?_;refine ZWG trivial (w_gy _ _ _ j) [1000000000,1000000001] [] ?_;obtain⟨l,g,h⟩:=ae h;refine ZF trivial ?_;refine⟨by simp[sP,nw,eK,cE,dq,nB,su,th,sX,nz,cG,cd,eL,cJ,kS,dh,cH,ce,kT,lp,iO,dr,di,dl,df,cF,dm,cI,dp,dg,dj,VZ1],jv (ok:=⟨_,_,_⟩) (by simp only[VS1,VS2,VS3,VS4,VS5,VS6,VT1,VT2,bw,bx,decide_true,decide_false,List.nodup_nil,List.nodup_cons,cP,cO,cQ,ne_eq,not_false_eq_true,Int.reduceEq,Int.reduceNe,true_and,false_and,Nat.reduceSub,Nat.reduceMul,↓reduceIte,reduceCtorEq,Nat.reduceEqDiff,Nat.reduceAdd,Nat.reduceLeDiff,Int.reduceLE];first|exact QF _ _ g|(have hw:=QF _ _ g;simp only[VS1,VS2,VS3,VS4,VS5,VS6,VT1,VT2,bw,bx,decide_true,decide_false,List.nodup_nil,List.nodup_cons,cP,cO,cQ,ne_eq,not_false_eq_true,Int.reduceEq,Int.reduceNe,true_and,false_and,Nat.reduceSub,Nat.reduceMul,↓reduceIte,reduceCtorEq,Nat.reduceEqDiff,Nat.reduceAdd,Nat.reduceLeDiff,Int.reduceLE] at hw;exact hw)) (by simp[VS1,VS2,VS3,VS4,VS5,VS6,VT1,VT2]) (by first|exact re [1000000000] rfl (by decide+kernel)|exact mq [1000000000] [] rfl (by decide+kernel) (by simp[VS1,VS2,VS3,VS4,VS5,VS6,VT1,VT2])|simp[VS1,VS2,VS3,VS4,VS5,VS6,VT1,VT2]) ?_⟩;refine ZG ?_;cases h;exact ZL trivial @V85.eq_1
theorem Sf(j:Int)(a:List ByteArray)(b:List ay)(c:List aq)(d:List aq)(g:List Int){r:Int×List ByteArray×List ay×List aq×List aq×List Int}(h:EN j a b c d g=some r):OkH Tryz.prog 21 [.agg [.sl 1000000000 0 a.length,.sl 1000000001 0 b.length,.sl 1000000002 0 c.length,.sl 1000000003 0 d.length,.sl 1000000004 0 g.length],.i j] [(1000000000,.arr 1 (a.map AV.z)),(1000000001,.arr 4 (b.map (ah .u))),(1000000002,.arr 5 (c.map (ai .u))),(1000000003,.arr 5 (d.map (ai .u))),(1000000004,.arr 1 (g.map AV.i))] (.i r.1) ([(1000000000,.arr 1 (r.2.1.map AV.z)),(1000000001,.arr 4 (r.2.2.1.map (ah .u))),(1000000002,.arr 5 (r.2.2.2.1.map (ai .u))),(1000000003,.arr 5 (r.2.2.2.2.1.map (ai .u))),(1000000004,.arr 1 (r.2.2.2.2.2.map AV.i))]):=by
 refine kg (lr:=[1000000000,1000000001,1000000002,1000000003,1000000004]) aY Xq rfl ?_;unfold EN at h;simp only[ZC,SH,V85];obtain⟨q,k,h⟩:=ae h;refine ZF trivial ?_;refine⟨by simp[sP,nw,eK,cE,dq,nB,su,th,sX,nz,cG,cd,eL,cJ,kS,dh,cH,ce,kT,lp,iO,dr,di,dl,df,cF,dm,cI,dp,dg,dj,VZ1],jv (ok:=⟨_,_,_⟩) (by simp only[VS1,VS2,VS3,VS4,VS5,VS6,VT1,VT2,bw,bx,decide_true,decide_false,List.nodup_nil,List.nodup_cons,cP,cO,cQ,ne_eq,not_false_eq_true,Int.reduceEq,Int.reduceNe,true_and,false_and,Nat.reduceSub,Nat.reduceMul,↓reduceIte,reduceCtorEq,Nat.reduceEqDiff,Nat.reduceAdd,Nat.reduceLeDiff,Int.reduceLE];first|exact w_eq _ _ _ _ k|(have hw:=w_eq _ _ _ _ k;simp only[VS1,VS2,VS3,VS4,VS5,VS6,VT1,VT2,bw,bx,decide_true,decide_false,List.nodup_nil,List.nodup_cons,cP,cO,cQ,ne_eq,not_false_eq_true,Int.reduceEq,Int.reduceNe,true_and,false_and,Nat.reduceSub,Nat.reduceMul,↓reduceIte,reduceCtorEq,Nat.reduceEqDiff,Nat.reduceAdd,Nat.reduceLeDiff,Int.reduceLE] at hw;exact hw)) (by simp[VS1,VS2,VS3,VS4,VS5,VS6,VT1,VT2]) (by first|exact re [1000000000,1000000001,1000000002] rfl (by decide+kernel)|exact mq [1000000000,1000000001,1000000002] [] rfl (by decide+kernel) (by simp[VS1,VS2,VS3,VS4,VS5,VS6,VT1,VT2])|simp[VS1,VS2,VS3,VS4,VS5,VS6,VT1,VT2]) ?_⟩;refine ZG ?_;obtain⟨s,l,h⟩:=ae h;refine ZF trivial ?_;refine⟨by simp[sP,nw,eK,cE,dq,nB,su,th,sX,nz,cG,cd,eL,cJ,kS,dh,cH,ce,kT,lp,iO,dr,di,dl,df,cF,dm,cI,dp,dg,dj,VZ1],jv (ok:=⟨_,_,_⟩) (by simp only[VS1,VS2,VS3,VS4,VS5,VS6,VT1,VT2,bw,bx,decide_true,decide_false,List.nodup_nil,List.nodup_cons,cP,cO,cQ,ne_eq,not_false_eq_true,Int.reduceEq,Int.reduceNe,true_and,false_and,Nat.reduceSub,Nat.reduceMul,↓reduceIte,reduceCtorEq,Nat.reduceEqDiff,Nat.reduceAdd,Nat.reduceLeDiff,Int.reduceLE];first|exact QF _ _ l|(have hw:=QF _ _ l;simp only[VS1,VS2,VS3,VS4,VS5,VS6,VT1,VT2,bw,bx,decide_true,decide_false,List.nodup_nil,List.nodup_cons,cP,cO,cQ,ne_eq,not_false_eq_true,Int.reduceEq,Int.reduceNe,true_and,false_and,Nat.reduceSub,Nat.reduceMul,↓reduceIte,reduceCtorEq,Nat.reduceEqDiff,Nat.reduceAdd,Nat.reduceLeDiff,Int.reduceLE] at hw;exact hw)) (by simp[VS1,VS2,VS3,VS4,VS5,VS6,VT1,VT2]) (by first|exact re [1000000000] rfl (by decide+kernel)|exact mq [1000000000] [] rfl (by decide+kernel) (by simp[VS1,VS2,VS3,VS4,VS5,VS6,VT1,VT2])|simp[VS1,VS2,VS3,VS4,VS5,VS6,VT1,VT2]) ?_⟩;refine ZG ?_;obtain⟨t,p,h⟩:=ae h;refine ZF trivial ?_;refine ZWG trivial (w_dz _ _ p) [1000000000] [] ?_;cases h;exact ZL trivial @V85.eq_1
theorem w_em(a:List ByteArray)(d:Int×Int)(o:(Int×Int)⊕(Int⊕Int))(h:Es a d=some o):AWP (OkS Tryz.prog) yF (qL [0,1,5] [] (S_b a) (qS (qX 0 [1] [] (gb)) (qR V85 (fun r=>.i r))) o) (S_b a d):=by
 have e:=ZA @S_b.eq_1 @gb.eq_1;unfold Es at h;simp only[ZC,S_b,yF];obtain⟨b,h⟩|⟨b,h⟩:=au h
 ·obtain⟨k,g,h⟩:=ae h;obtain⟨l,j,h⟩:=ae h;have f:=ZA b (aP g);refine ZF f ?_;refine ZSG f (w_ct _ j) ?_;obtain⟨c,h⟩|⟨c,h⟩:=au h
  ·cases h;exact ZL (ZA f c) @V85.eq_1
  ·cases h;exact ZL (ZA f c) e
 ·cases h;exact ZL b e
theorem w_el(a:List ByteArray)(b:Int){r:Int}(h:FE a b=some r):Ok Tryz.prog 162 [.lst .o 1 (a.map AV.z),.i b] (.i r):=by
 refine ax aY m162 rfl ?_;unfold FE at h;simp only[ZC,A162,V85,aB];obtain⟨c,d,h⟩:=ae h;try refine ZF trivial ?_
 refine bj (o:=c) (bq cy (aG (w_em a) d ?_)) (fun j hv=>?_) (fun k hv e τ hne hq=>?_)
 ·exact ZK (ZA @S_b.eq_1 @gb.eq_1)
 ·subst hv;simp only[] at h;simp only[ZC,gb,Hv];cases h;exact ZL trivial @V85.eq_1
 ·subst hv;simp only[] at h;obtain⟨rfl,g⟩:=hq;cases h;exact g
def Fk(a:List ay)(v:Int×Int):St:=⟨[(0,.lst .o 4 (a.map (ah .o))),(1,.i v.1),(5,.i v.2)],[]⟩
theorem w_bd(j:List ay)(l:Int×Int)(o:(Int×Int)⊕(Int⊕Int))(h:Fe j l=some o):AWP (OkS Tryz.prog) zg (qL [0,1,5] [] (Fk j) (qS (qX 0 [1] [] (gb)) (qR V85 (fun r=>.i r))) o) (Fk j l):=by
 have e:=@V85.eq_1;unfold Fe at h;simp only[ZC,Fk,zg];obtain⟨a,h⟩|⟨a,h⟩:=au h
 ·obtain⟨m,c,h⟩:=ae h;obtain⟨b,h⟩|⟨b,h⟩:=au h
  ·cases h;exact ZL (ZA a (ZA (aP c) b)) e
  ·obtain⟨d,h⟩|⟨d,h⟩:=au h
   ·cases h;exact ZL (ZA a (ZA (aP c) (ZA b d))) e
   ·obtain⟨g,h⟩|⟨g,h⟩:=au h
    ·cases h;exact ZL (ZA a (ZA (aP c) (ZA b (ZA d g)))) e
    ·obtain⟨k,h⟩|⟨k,h⟩:=au h
     ·cases h;exact ZL (ZA a (ZA (aP c) (ZA b (ZA d (ZA g k))))) e
     ·cases h;exact ZL (ZA a (ZA (aP c) (ZA b (ZA d (ZA g k))))) (ZA @Fk.eq_1 @gb.eq_1)
 ·cases h;exact ZL a (ZA @Fk.eq_1 @gb.eq_1)
theorem w_en(a:List ay)(b:Int){r:Int}(h:Ec a b=some r):Ok Tryz.prog 163 [.lst .o 4 (a.map (ah .o)),.i b] (.i r):=by
 refine ax aY m163 rfl ?_;unfold Ec at h;simp only[ZC,A163,V85,aB];obtain⟨c,d,h⟩:=ae h;try refine ZF trivial ?_
 refine bj (o:=c) (bq cy (aG (w_bd a) d ?_)) (fun j hv=>?_) (fun k hv e τ hne hq=>?_)
 ·exact ZK (ZA @Fk.eq_1 @gb.eq_1)
 ·subst hv;simp only[] at h;simp only[ZC,gb,Lg];cases h;exact ZL trivial @V85.eq_1
 ·subst hv;simp only[] at h;obtain⟨rfl,g⟩:=hq;cases h;exact g
theorem w_eo(b:af)(d:Int){r:Int}(h:EB b d=some r):Ok Tryz.prog 104 [.agg [.lst .o 1 (b.Nodes.map AV.z),.lst .o 4 (b.Fibers.map (ah .o))],.i d] (.i r):=by
 refine ax aY m104 rfl ?_;unfold EB at h;simp only[ZC,A104,V85,aB];obtain⟨k,g,h⟩:=ae h;refine ZF trivial ?_;refine ZSG trivial (w_el _ _ g) ?_;obtain⟨a,h⟩|⟨a,h⟩:=au h
 ·cases h;exact ZL a @V85.eq_1
 ·obtain⟨l,j,h⟩:=ae h;refine ZF a ?_;refine ZSG a (w_en _ _ j) ?_;obtain⟨c,h⟩|⟨c,h⟩:=au h
  ·cases h;exact ZL (ZA a c) @V85.eq_1
  ·cases h;exact ZL (ZA a c) @V85.eq_1
def Kz(a:List Int)(v:Int×Int):St:=⟨[(0,.lst .o 1 (a.map AV.i)),(1,.i v.1),(5,.i v.2)],[]⟩
theorem w_by(b:List Int)(d:Int×Int)(o:(Int×Int)⊕(Int⊕Int))(h:FL b d=some o):AWP (OkS Tryz.prog) Oi (qL [0,1,5] [] (Kz b) (qS (qX 0 [1] [] (gb)) (qR V85 (fun r=>.i r))) o) (Kz b d):=by
 have e:=ZA @Kz.eq_1 @gb.eq_1;unfold FL at h;simp only[ZC,Kz,Oi];obtain⟨a,h⟩|⟨a,h⟩:=au h
 ·obtain⟨j,g,h⟩:=ae h;obtain⟨c,h⟩|⟨c,h⟩:=au h
  ·cases h;exact ZL (ZA a (ZA (aP g) c)) @V85.eq_1
  ·cases h;exact ZL (ZA a (ZA (aP g) c)) e
 ·cases h;exact ZL a e
theorem w_cu(a:List Int)(b:Int){r:Int}(h:uZ a b=some r):Ok Tryz.prog 23 [.lst .o 1 (a.map AV.i),.i b] (.i r):=by
 refine ax aY m23 rfl ?_;unfold uZ at h;simp only[ZC,A23,V85,aB];obtain⟨c,d,h⟩:=ae h;try refine ZF trivial ?_
 refine bj (o:=c) (bq cy (aG (w_by a) d ?_)) (fun j hv=>?_) (fun k hv e τ hne hq=>?_)
 ·exact ZK (ZA @Kz.eq_1 @gb.eq_1)
 ·subst hv;simp only[] at h;simp only[ZC,gb,Tw];cases h;exact ZL trivial @V85.eq_1
 ·subst hv;simp only[] at h;obtain⟨rfl,g⟩:=hq;cases h;exact g
theorem w_ep(g:List aq)(m:Int×Int)(o:(Int×Int)⊕(Int⊕Int))(h:Dn g m=some o):AWP (OkS Tryz.prog) ME (qL [0,1,5] [] (S_y g) (qS (qX 0 [1] [] (gb)) (qR V85 (fun r=>.i r))) o) (S_y g m):=by
 have e:=@V85.eq_1;unfold Dn at h;simp only[ZC,S_y,ME];obtain⟨a,h⟩|⟨a,h⟩:=au h
 ·obtain⟨q,j,h⟩:=ae h;obtain⟨c,h⟩|⟨c,h⟩:=au h
  ·cases h;exact ZL (ZA a (ZA (aP j) c)) e
  ·obtain⟨k,h⟩|⟨k,h⟩:=au h
   ·cases h;exact ZL (ZA a (ZA (aP j) (ZA c k))) e
   ·obtain⟨s,p,h⟩:=ae h;have f:=ZA a (ZA (aP j) (ZA c k));refine ZF f ?_;refine ZSG f (w_cu _ _ p) ?_;obtain⟨b,h⟩|⟨b,h⟩:=au h
    ·cases h;exact ZL (ZA f b) e
    ·obtain⟨d,h⟩|⟨d,h⟩:=au h
     ·cases h;exact ZL (ZA f (ZA b d)) e
     ·obtain⟨l,h⟩|⟨l,h⟩:=au h
      ·cases h;exact ZL (ZA f (ZA b (ZA d l))) e
      ·cases h;exact ZL (ZA f (ZA b (ZA d l))) (ZA @S_y.eq_1 @gb.eq_1)
 ·cases h;exact ZL a (ZA @S_y.eq_1 @gb.eq_1)
theorem w_cw(a:List aq)(b:Int){r:Int}(h:xf a b=some r):Ok Tryz.prog 78 [.lst .o 5 (a.map (ai .o)),.i b] (.i r):=by
 refine ax aY m78 rfl ?_;unfold xf at h;simp only[ZC,A78,V85,aB];obtain⟨c,d,h⟩:=ae h;try refine ZF trivial ?_
 refine bj (o:=c) (bq cy (aG (w_ep a) d ?_)) (fun j hv=>?_) (fun k hv e τ hne hq=>?_)
 ·exact ZK (ZA @S_y.eq_1 @gb.eq_1)
 ·subst hv;simp only[] at h;simp only[ZC,gb,SL];cases h;exact ZL trivial @V85.eq_1
 ·subst hv;simp only[] at h;obtain⟨rfl,g⟩:=hq;cases h;exact g
theorem w_er(b:aK)(d:Int){r:Int}(h:Fw b d=some r):Ok Tryz.prog 44 [.agg [.lst .o 1 (b.Network.Nodes.map AV.z),.lst .o 4 (b.Network.Fibers.map (ah .o)),.lst .o 5 (b.Lights.map (ai .o))],.i d] (.i r):=by
 refine ax aY m44 rfl ?_;unfold Fw at h;simp only[ZC,A44,V85,aB];obtain⟨k,g,h⟩:=ae h;refine ZF trivial ?_;refine ZSG trivial (w_eo _ _ g) ?_;obtain⟨a,h⟩|⟨a,h⟩:=au h
 ·cases h;exact ZL a @V85.eq_1
 ·obtain⟨l,j,h⟩:=ae h;refine ZF a ?_;refine ZSG a (w_cw _ _ j) ?_;obtain⟨c,h⟩|⟨c,h⟩:=au h
  ·cases h;exact ZL (ZA a c) @V85.eq_1
  ·cases h;exact ZL (ZA a c) @V85.eq_1
theorem w_cy(a:aj)(g:Int){r:Int}(h:uY a g=some r):Ok Tryz.prog 30 [.agg [.lst .o 1 (a.Plan.Network.Nodes.map AV.z),.lst .o 4 (a.Plan.Network.Fibers.map (ah .o)),.lst .o 5 (a.Plan.Lights.map (ai .o)),.lst .o 5 (a.Home.map (ai .o)),.lst .o 1 (a.Down.map AV.i)],.i g] (.i r):=by
 refine ax aY m30 rfl ?_;unfold uY at h;simp only[ZC,A30,V85,aB];obtain⟨m,j,h⟩:=ae h;refine ZF trivial ?_;refine ZSG trivial (w_er _ _ j) ?_;obtain⟨b,h⟩|⟨b,h⟩:=au h
 ·cases h;exact ZL b @V85.eq_1
 ·obtain⟨p,k,h⟩:=ae h;refine ZF b ?_;refine ZSG b (w_cw _ _ k) ?_;obtain⟨c,h⟩|⟨c,h⟩:=au h
  ·cases h;exact ZL (ZA b c) @V85.eq_1
  ·obtain⟨q,l,h⟩:=ae h;have f:=ZA b c;refine ZF f ?_;refine ZSG f (w_cu _ _ l) ?_;obtain⟨d,h⟩|⟨d,h⟩:=au h
   ·cases h;exact ZL (ZA f d) @V85.eq_1
   ·cases h;exact ZL (ZA f d) @V85.eq_1
theorem w_hm(d:aj)(q:Int){r:Bool}(h:Ph d q=some r):Ok Tryz.prog 10 [.agg [.lst .o 1 (d.Plan.Network.Nodes.map AV.z),.lst .o 4 (d.Plan.Network.Fibers.map (ah .o)),.lst .o 5 (d.Plan.Lights.map (ai .o)),.lst .o 5 (d.Home.map (ai .o)),.lst .o 1 (d.Down.map AV.i)],.i q] (.b r):=by
 have e:=@V85.eq_1;refine ax aY m10 rfl ?_;unfold Ph at h;simp only[ZC,A10,V85,aB];obtain⟨k3,p1,h⟩:=ae h;refine ZF trivial ?_;refine ZSG trivial (w_gv _ _ p1) ?_;obtain⟨c,h⟩|⟨c,h⟩:=au h
 ·cases h;exact ZL c e
 ·obtain⟨l3,q1,h⟩:=ae h;refine ZF c ?_;refine ZUG c (QB _ q1) ?_;obtain⟨g,s1,h⟩:=ae h;refine ZF c ?_;refine ZWG c (w_fl _ _ _ _ _ _ s1) [500000256,500000257,500000258,500000259,500000260,1000000000,1000000001,1000000002,1000000003,1000000004] [502900256,502900257,502900258,502900259,502900260] ?_;obtain⟨k,t1,h⟩:=ae h;refine ZF c ?_;refine ZUG c (QB _ t1) ?_;obtain⟨a,u1,h⟩:=ae h;refine ZF c ?_;refine ZUG c (w_dl _ _ u1) ?_;obtain⟨v1,w1,h⟩:=ae h;try refine ZF c ?_
  refine aJ (sh:=(fun v=>⟨[(1,.i q),(2,.bp .o (.agg [.lst .o 1 (d.Plan.Network.Nodes.map AV.z),.lst .o 4 (d.Plan.Network.Fibers.map (ah .o)),.lst .o 5 (d.Plan.Lights.map (ai .o)),.lst .o 5 (d.Home.map (ai .o)),.lst .o 1 (d.Down.map AV.i)]) 0),(6,.bp .o (.agg [.lst .o 1 (g.2.2.1.map AV.z),.lst .o 4 (g.2.2.2.1.map (ah .o)),.lst .o 5 (g.2.2.2.2.1.map (ai .o)),.lst .o 5 (g.2.2.2.2.2.1.map (ai .o)),.lst .o 1 (g.2.2.2.2.2.2.1.map AV.i)]) 0),(7,.b g.1),(8,.b g.2.1),(9,.pt 9 0 0),(10,.pt 10 0 0),(11,.b a.2.1),(12,.b a.2.2),(54,.b v)],[(9,.var (.agg [.sl 33 0 k.Plan.Network.Nodes.length,.sl 1033 0 k.Plan.Network.Fibers.length,.sl 2033 0 k.Plan.Lights.length,.sl 3033 0 k.Home.length,.sl 4033 0 k.Down.length])),(10,.var (.agg [.sl 37 0 a.1.Plan.Network.Nodes.length,.sl 1037 0 a.1.Plan.Network.Fibers.length,.sl 2037 0 a.1.Plan.Lights.length,.sl 3037 0 a.1.Home.length,.sl 4037 0 a.1.Down.length])),(33,.arr 1 (k.Plan.Network.Nodes.map AV.z)),(37,.arr 1 (a.1.Plan.Network.Nodes.map AV.z)),(1033,.arr 4 (k.Plan.Network.Fibers.map (ah .u))),(1037,.arr 4 (a.1.Plan.Network.Fibers.map (ah .u))),(2033,.arr 5 (k.Plan.Lights.map (ai .u))),(2037,.arr 5 (a.1.Plan.Lights.map (ai .u))),(3033,.arr 5 (k.Home.map (ai .u))),(3037,.arr 5 (a.1.Home.map (ai .u))),(4033,.arr 1 (k.Down.map AV.i)),(4037,.arr 1 (a.1.Down.map AV.i))]⟩)) (s:=v1) ?_ ?_
  ·replace h:=w1;obtain⟨m3,y1,h⟩:=ae h;refine ZF c ?_;refine ZSG c (Pq _ _ y1) ?_;obtain⟨t,h⟩|⟨t,h⟩:=au h
   ·cases h;exact ZL (ZA c t) trivial
   ·obtain⟨b1,h⟩|⟨b1,h⟩:=au h
    ·cases h;exact ZL (ZA c (ZA t b1)) trivial
    ·cases h;exact ZL (ZA c (ZA t b1)) trivial
  ·simp only[ZC,SY];obtain⟨l,h⟩|⟨l,h⟩:=au h
   ·cases h;exact ZL (ZA c l) e
   ·obtain⟨p3,z1,h⟩:=ae h;have f:=ZA c l;refine ZF f ?_;refine ZUG f (QB _ z1) ?_;obtain⟨q3,a2,h⟩:=ae h;refine ZF f ?_;refine ZSG f (Pq _ _ a2) ?_;obtain⟨m,h⟩|⟨m,h⟩:=au h
    ·cases h;exact ZL (ZA f m) e
    ·obtain⟨s3,l1,h⟩:=ae h;have f:=ZA f m;refine ZF f ?_;refine⟨by simp[sP,nw,eK,cE,dq,nB,su,th,sX,nz,cG,cd,eL,cJ,kS,dh,cH,ce,kT,lp,iO,dr,di,dl,df,cF,dm,cI,dp,dg,dj,VZ1],jv (ok:=⟨_,_,_⟩) (by simp only[VS1,VS2,VS3,VS4,VS5,VS6,VT1,VT2,bw,bx,decide_true,decide_false,List.nodup_nil,List.nodup_cons,cP,cO,cQ,ne_eq,not_false_eq_true,Int.reduceEq,Int.reduceNe,true_and,false_and,Nat.reduceSub,Nat.reduceMul,↓reduceIte,reduceCtorEq,Nat.reduceEqDiff,Nat.reduceAdd,Nat.reduceLeDiff,Int.reduceLE,c,l,m];first|exact Sf _ _ _ _ _ _ l1|(have hw:=Sf _ _ _ _ _ _ l1;simp only[VS1,VS2,VS3,VS4,VS5,VS6,VT1,VT2,bw,bx,decide_true,decide_false,List.nodup_nil,List.nodup_cons,cP,cO,cQ,ne_eq,not_false_eq_true,Int.reduceEq,Int.reduceNe,true_and,false_and,Nat.reduceSub,Nat.reduceMul,↓reduceIte,reduceCtorEq,Nat.reduceEqDiff,Nat.reduceAdd,Nat.reduceLeDiff,Int.reduceLE,c,l,m] at hw;exact hw)) (by simp[VS1,VS2,VS3,VS4,VS5,VS6,VT1,VT2]) (by first|exact re [1000000000,1000000001,1000000002,1000000003,1000000004] rfl (by decide+kernel)|exact mq [1000000000,1000000001,1000000002,1000000003,1000000004] [] rfl (by decide+kernel) (by simp[VS1,VS2,VS3,VS4,VS5,VS6,VT1,VT2])|simp[VS1,VS2,VS3,VS4,VS5,VS6,VT1,VT2]) ?_⟩;refine ZG ?_;obtain⟨c2,d2,h⟩:=ae h;try refine ZF f ?_
     refine aJ (sh:=(fun v=>⟨[(1,.i q),(2,.bp .o (.agg [.lst .o 1 (d.Plan.Network.Nodes.map AV.z),.lst .o 4 (d.Plan.Network.Fibers.map (ah .o)),.lst .o 5 (d.Plan.Lights.map (ai .o)),.lst .o 5 (d.Home.map (ai .o)),.lst .o 1 (d.Down.map AV.i)]) 0),(6,.bp .o (.agg [.lst .o 1 (g.2.2.1.map AV.z),.lst .o 4 (g.2.2.2.1.map (ah .o)),.lst .o 5 (g.2.2.2.2.1.map (ai .o)),.lst .o 5 (g.2.2.2.2.2.1.map (ai .o)),.lst .o 1 (g.2.2.2.2.2.2.1.map AV.i)]) 0),(7,.b g.1),(8,.b g.2.1),(10,.pt 10 0 0),(80,.b v)],[(10,.var (.agg [.sl 37 0 a.1.Plan.Network.Nodes.length,.sl 1037 0 a.1.Plan.Network.Fibers.length,.sl 2037 0 a.1.Plan.Lights.length,.sl 3037 0 a.1.Home.length,.sl 4037 0 a.1.Down.length])),(37,.arr 1 (a.1.Plan.Network.Nodes.map AV.z)),(1037,.arr 4 (a.1.Plan.Network.Fibers.map (ah .u))),(2037,.arr 5 (a.1.Plan.Lights.map (ai .u))),(3037,.arr 5 (a.1.Home.map (ai .u))),(4037,.arr 1 (a.1.Down.map AV.i))]⟩)) (s:=c2) ?_ ?_
     ·replace h:=d2;obtain⟨c1,h⟩|⟨c1,h⟩:=au h
      ·cases h;exact ZL (ZA f c1) trivial
      ·obtain⟨t3,g2,h⟩:=ae h;have f:=ZA f c1;refine ZF f ?_;refine ZSG f (Pq _ _ g2) ?_;obtain⟨w,h⟩|⟨w,h⟩:=au h
       ·cases h;exact ZL (ZA f w) trivial
       ·obtain⟨d1,h⟩|⟨d1,h⟩:=au h
        ·cases h;exact ZL (ZA f (ZA w d1)) trivial
        ·cases h;exact ZL (ZA f (ZA w d1)) trivial
     ·simp only[ZC,TG];obtain⟨p,h⟩|⟨p,h⟩:=au h
      ·cases h;exact ZL (ZA f p) e
      ·obtain⟨j,m1,h⟩:=ae h;have f:=ZA f p;refine ZF f ?_;refine⟨by simp[sP,nw,eK,cE,dq,nB,su,th,sX,nz,cG,cd,eL,cJ,kS,dh,cH,ce,kT,lp,iO,dr,di,dl,df,cF,dm,cI,dp,dg,dj,VZ1],jv (ok:=⟨_,_,_⟩) (by simp only[VS1,VS2,VS3,VS4,VS5,VS6,VT1,VT2,bw,bx,decide_true,decide_false,List.nodup_nil,List.nodup_cons,cP,cO,cQ,ne_eq,not_false_eq_true,Int.reduceEq,Int.reduceNe,true_and,false_and,Nat.reduceSub,Nat.reduceMul,↓reduceIte,reduceCtorEq,Nat.reduceEqDiff,Nat.reduceAdd,Nat.reduceLeDiff,Int.reduceLE,c,l,m,p];first|exact Sf _ _ _ _ _ _ m1|(have hw:=Sf _ _ _ _ _ _ m1;simp only[VS1,VS2,VS3,VS4,VS5,VS6,VT1,VT2,bw,bx,decide_true,decide_false,List.nodup_nil,List.nodup_cons,cP,cO,cQ,ne_eq,not_false_eq_true,Int.reduceEq,Int.reduceNe,true_and,false_and,Nat.reduceSub,Nat.reduceMul,↓reduceIte,reduceCtorEq,Nat.reduceEqDiff,Nat.reduceAdd,Nat.reduceLeDiff,Int.reduceLE,c,l,m,p] at hw;exact hw)) (by simp[VS1,VS2,VS3,VS4,VS5,VS6,VT1,VT2]) (by first|exact re [1000000000,1000000001,1000000002,1000000003,1000000004] rfl (by decide+kernel)|exact mq [1000000000,1000000001,1000000002,1000000003,1000000004] [] rfl (by decide+kernel) (by simp[VS1,VS2,VS3,VS4,VS5,VS6,VT1,VT2])|simp[VS1,VS2,VS3,VS4,VS5,VS6,VT1,VT2]) ?_⟩;refine ZG ?_;obtain⟨i2,j2,h⟩:=bl h;have k2:sub (j.2.1.map AV.z) 0 a.1.Plan.Network.Nodes.length=i2.map AV.z:=by rw[dy,j2]
       obtain⟨l2,m2,h⟩:=bl h;have p2:sub (j.2.2.1.map (ah .u)) 0 a.1.Plan.Network.Fibers.length=l2.map (ah .u):=by rw[dy,m2]
       obtain⟨q2,s2,h⟩:=bl h;have t2:sub (j.2.2.2.1.map (ai .u)) 0 a.1.Plan.Lights.length=q2.map (ai .u):=by rw[dy,s2]
       obtain⟨u2,v2,h⟩:=bl h;have w2:sub (j.2.2.2.2.1.map (ai .u)) 0 a.1.Home.length=u2.map (ai .u):=by rw[dy,v2]
       obtain⟨x2,y2,h⟩:=bl h;have z2:sub (j.2.2.2.2.2.map AV.i) 0 a.1.Down.length=x2.map AV.i:=by rw[dy,y2]
       obtain⟨u3,a3,h⟩:=ae h;have f:=ZA f (ZA k2 (ZA p2 (ZA t2 (ZA w2 z2))));refine ZF f ?_;refine ZSG f (w_cy _ _ a3) ?_;obtain⟨x,h⟩|⟨x,h⟩:=au h
       ·cases h;exact ZL (ZA f x) e
       ·obtain⟨g1,h⟩|⟨g1,h⟩:=au h
        ·cases h;exact ZL (ZA f (ZA x g1)) e
        ·obtain⟨v3,b3,h⟩:=ae h;have f:=ZA f (ZA x g1);refine ZF f ?_;refine ZUG f (QB _ b3) ?_;obtain⟨w3,c3,h⟩:=ae h;refine ZF f ?_;refine ZUG f (w_dl _ _ c3) ?_;obtain⟨d3,g3,h⟩:=ae h;try refine ZF f ?_
         refine aJ (sh:=(fun v=>⟨[(10,.pt 10 0 0),(14,.i j.1),(113,.b v)],[(10,.var (.agg [.sl 37 0 a.1.Plan.Network.Nodes.length,.sl 1037 0 a.1.Plan.Network.Fibers.length,.sl 2037 0 a.1.Plan.Lights.length,.sl 3037 0 a.1.Home.length,.sl 4037 0 a.1.Down.length])),(37,.arr 1 (j.2.1.map AV.z)),(1037,.arr 4 (j.2.2.1.map (ah .u))),(2037,.arr 5 (j.2.2.2.1.map (ai .u))),(3037,.arr 5 (j.2.2.2.2.1.map (ai .u))),(4037,.arr 1 (j.2.2.2.2.2.map AV.i))]⟩)) (s:=d3) ?_ ?_
         ·replace h:=g3;obtain⟨x3,i3,h⟩:=ae h;refine ZF f ?_;refine ZSG f (Pq _ _ i3) ?_;obtain⟨y,h⟩|⟨y,h⟩:=au h
          ·cases h;exact ZL (ZA f y) trivial
          ·obtain⟨i1,h⟩|⟨i1,h⟩:=au h
           ·cases h;exact ZL (ZA f (ZA y i1)) trivial
           ·cases h;exact ZL (ZA f (ZA y i1)) trivial
         ·simp only[ZC,TN];obtain⟨j1,h⟩|⟨j1,h⟩:=au h
          ·cases h;exact ZL (ZA f j1) e
          ·obtain⟨y3,j3,h⟩:=ae h;have f:=ZA f j1;refine ZF f ?_;refine ZSG f (w_cy _ _ j3) ?_;obtain⟨a1,h⟩|⟨a1,h⟩:=au h
           ·cases h;exact ZL (ZA f a1) e
           ·obtain⟨k1,h⟩|⟨k1,h⟩:=au h
            ·cases h;exact ZL (ZA f (ZA a1 k1)) e
            ·cases h;exact ZL (ZA f (ZA a1 k1)) e
end Vs

