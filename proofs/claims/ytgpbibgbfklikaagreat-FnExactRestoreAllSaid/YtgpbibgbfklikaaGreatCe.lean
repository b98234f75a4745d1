/-
  Part of the proof that FnExactRestoreAll returns true at every input.
-/
import Derived.Test.YtgpbibgbfklikaaGreatCb
set_option linter.defProp false
set_option linter.unusedSimpArgs false
set_option linter.unusedVariables false
set_option maxHeartbeats 1000000
set_option maxRecDepth 8000
namespace Vs
open Go Go.Proofs
attribute [local irreducible] AWP dF eff tz gi callM
theorem w_dw(a:List Int)(c:Int){r:Bool}(h:Dk a c=some r):Ok Tryz.prog 84 [.lst .o 1 (a.map AV.i),.i c] (.b r):=by
 refine ax aZ m84 rfl ?_;unfold Dk at h;simp only[ZC,A84,V85,aB];obtain⟨g,d,h⟩:=ae h;refine ZF trivial ?_;refine ZSG trivial (w_hv _ _ d) ?_;cases h;exact ZL trivial @V85.eq_1
def CP(a:af)(b:ar)(v:Int×Int×List Int):St:=⟨[(2,.pt 2 0 0),(6,.sl 6 0 v.2.2.length),(7,.i v.1),(30,.lst .o 1 (b.F.map AV.i)),(31,.i (b.F.length:Int)),(32,.i v.2.1)],[(2,.var (.agg [.lst .o 1 (a.N.map AV.z),.lst .o 4 (a.F.map (ai .o))])),(6,.arr 1 (v.2.2.map AV.i))]⟩
theorem w_az(c:af)(d:ar)(a:Int×Int×List Int)(o:(Int×Int×List Int)⊕((List Int)⊕(List Int×Bool)))(h:FX c d a=some o):AWP (OkS Tryz.prog) Ad (qL [2,6,7,30,31,32] [2,6] (CP c d) (qS (qX 0 [6] [6] (rB)) (qR mH (fun r=>.tup [.lst .u 1 (r.1.map AV.i),.b r.2]))) o) (CP c d a):=by
 unfold FX at h;simp only[ZC,CP,Ad];obtain⟨j,h⟩|⟨j,h⟩:=au h
 ·obtain⟨q1,b1,h⟩:=ae h;obtain⟨s1,c1,h⟩:=ae h;have f:=ZA j (aO b1);refine ZF f ?_;refine ZSG f (w_i _ _ _ c1) ?_;obtain⟨k,h⟩|⟨k,h⟩:=au h
  ·cases h;exact ZL (ZA f k) @mH.eq_1
  ·obtain⟨t1,d1,h⟩:=ae h;obtain⟨t,g1,h⟩:=ae h;have f:=ZA f (ZA k (aO d1));refine ZF f ?_;refine ZSG f (WB _ _ g1) ?_;obtain⟨i1,j1,h⟩:=ae h;try refine ZF f ?_
   refine aJ (sh:=(fun v=>⟨[(2,.pt 2 0 0),(6,.sl 6 0 a.2.2.length),(7,.i t),(30,.lst .o 1 (d.F.map AV.i)),(31,.i (d.F.length:Int)),(32,.i a.2.1),(56,.b v)],[(2,.var (.agg [.lst .o 1 (c.N.map AV.z),.lst .o 4 (c.F.map (ai .o))])),(6,.arr 1 (a.2.2.map AV.i))]⟩)) (s:=i1) ?_ ?_
   ·replace h:=j1;obtain⟨l,h⟩|⟨l,h⟩:=au h
    ·cases h;exact ZL (ZA f l) trivial
    ·obtain⟨u1,k1,h⟩:=ae h;have f:=ZA f l;refine ZF f ?_;refine ZSG f (w_dw _ _ k1) ?_;cases h;exact ZL f trivial
   ·simp only[ZC,Hm];obtain⟨m,h⟩|⟨m,h⟩:=au h
    ·cases h;exact ZL (ZA f m) @mH.eq_1
    ·obtain⟨p,g,h⟩:=bj h;have l1:Row.arr 1 [(.i t:AV)]=Row.arr 1 (p.map AV.i):=by rw[<-g];rfl
     have w:p.length=1:=by rw[<-g];rfl
     obtain⟨v1,m1,h⟩:=ae h;have x:=be m1;obtain⟨y,q,h⟩:=bj h;have p1:a.2.2.map AV.i++p.map AV.i=y.map AV.i:=by rw[<-q,List.map_append]
     have a1:a.2.2.length+1=y.length:=by simp[<-g,<-q]<;>omega
     rw[a1] at x;cases h;exact ZL (ZA f (ZA m (ZA l1 (ZA w (ZA x (ZA p1 a1)))))) (ZA @CP.eq_1 (ZA @rB.eq_1 (ZA g.symm (ZA q.symm w))))
 ·cases h;exact ZL j (ZA @CP.eq_1 @rB.eq_1)
theorem w_dm(c:af)(a:ar){r:List Int×Bool}(h:Ch c a=some r):Ok Tryz.prog 135 [.agg [.lst .o 1 (c.N.map AV.z),.lst .o 4 (c.F.map (ai .o))],.agg [.i a.N,.lst .o 1 (a.F.map AV.i)]] (.tup [.lst .u 1 (r.1.map AV.i),.b r.2]):=by
 refine ax aZ m135 rfl ?_;unfold Ch at h;simp only[ZC,A135,mH,aB];obtain⟨m,p,h⟩:=ae h;try refine ZF trivial ?_
 refine aJ (sh:=(fun v=>⟨[(2,.pt 2 0 0),(3,.pt 3 0 0),(23,.b v)],[(2,.var (.agg [.lst .o 1 (c.N.map AV.z),.lst .o 4 (c.F.map (ai .o))])),(3,.var (.agg [.i a.N,.lst .o 1 (a.F.map AV.i)]))]⟩)) (s:=m) ?_ ?_
 ·replace h:=p;obtain⟨a1,q,h⟩:=ae h;refine ZF trivial ?_;refine ZSG trivial (w_i _ _ _ q) ?_;obtain⟨d,h⟩|⟨d,h⟩:=au h
  ·cases h;exact ZL d trivial
  ·cases h;exact ZL d trivial
 ·simp only[ZC,IU];obtain⟨g,h⟩|⟨g,h⟩:=au h
  ·cases h;exact ZL g @mH.eq_1
  ·obtain⟨l,j,h⟩:=bj h;have t:Row.arr 1 [(.i a.N:AV)]=Row.arr 1 (l.map AV.i):=by rw[<-j];rfl
   have k:l.length=1:=by rw[<-j];rfl
   obtain⟨w,x,h⟩:=ae h;have f:=ZA g (ZA t k);try refine ZF f ?_
   refine bl (o:=w) (br cz (aF (w_az c a) x ?_)) (fun b1 hv=>?_) (fun c1 hv e τ hne hq=>?_)
   ·exact ZK (ZA @CP.eq_1 (ZA @rB.eq_1 (ZA j.symm k)))
   ·subst hv;simp only[] at h;simp only[ZC,rB,MY];cases h;exact ZL f (ZA @mH.eq_1 k)
   ·subst hv;simp only[] at h;obtain⟨rfl,y⟩:=hq;cases h;exact y
theorem w_gk(c:bd){r:Bool}(h:Im c=some r):Ok Tryz.prog 183 [.agg [.i c.N,.i c.F]] (.b r):=by
 refine ax aZ m183 rfl ?_;unfold Im at h;simp only[ZC,A183,V91,aB];obtain⟨a,h⟩|⟨a,h⟩:=au h
 ·obtain⟨j,g,h⟩:=ae h;refine ZF a ?_;refine ZSG a (w_i _ _ _ g) ?_;obtain⟨d,h⟩|⟨d,h⟩:=au h
  ·cases h;exact ZL (ZA a d) @V91.eq_1
  ·cases h;exact ZL (ZA a d) @V91.eq_1
 ·cases h;exact ZL a @V91.eq_1
theorem w_gl(d:af)(a:aj){r:Bool}(h:GX d a=some r):Ok Tryz.prog 129 [.agg [.lst .o 1 (d.N.map AV.z),.lst .o 4 (d.F.map (ai .o))],.agg [.i a.Id,.i a.F.N,.lst .o 1 (a.F.F.map AV.i),.i a.N.N,.i a.N.F]] (.b r):=by
 refine ax aZ m129 rfl ?_;unfold GX at h;simp only[ZC,A129,V85,aB];obtain⟨m,j,h⟩:=ae h;refine ZF trivial ?_;refine ZUG trivial (w_dm _ _ j) ?_;obtain⟨c,h⟩|⟨c,h⟩:=au h
 ·obtain⟨p,k,h⟩:=ae h;refine ZF c ?_;refine ZSG c (w_i _ _ _ k) ?_;obtain⟨g,h⟩|⟨g,h⟩:=au h
  ·obtain⟨q,l,h⟩:=ae h;have f:=ZA c g;refine ZF f ?_;refine ZSG f (w_gk _ l) ?_;cases h;exact ZL f @V85.eq_1
  ·cases h;exact ZL (ZA c g) @V85.eq_1
 ·cases h;exact ZL c @V85.eq_1
theorem Sd(a:bd){r:Int}(h:vi a=some r):Ok Tryz.prog 184 [.agg [.i a.N,.i a.F]] (.i r):=by
 refine ax aZ m184 rfl ?_;unfold vi at h;simp only[ZC,A184,V91,aB];obtain⟨d,b,h⟩:=ae h;obtain⟨g,c,h⟩:=ae h;cases h;exact ZL (ZA (be b) (be c)) @V91.eq_1
theorem w_ij(d:Int){r:Int}(h:Vz d=some r):Ok Tryz.prog 211 [.sc (.int .u64 d)] (.i r):=by
 refine ax aZ m211 rfl ?_;unfold Vz at h;simp only[ZC,A211,V91,aB];obtain⟨g,j,h⟩:=ae h;try refine ZF trivial ?_
 refine aJ (sh:=(fun v=>⟨[(0,.sc (.int .u64 v.1)),(2,.i v.2)],[]⟩)) (s:=g) ?_ ?_
 ·replace h:=j;obtain⟨a,h⟩|⟨a,h⟩:=au h
  ·cases h;exact ZL a trivial
  ·cases h;exact ZL a trivial
 ·simp only[ZC,Hh];obtain⟨k,l,h⟩:=ae h;try refine ZF trivial ?_
  refine aJ (sh:=(fun v=>⟨[(0,.sc (.int .u64 v.1)),(2,.i v.2)],[]⟩)) (s:=k) ?_ ?_
  ·replace h:=l;obtain⟨b,h⟩|⟨b,h⟩:=au h
   ·cases h;exact ZL b trivial
   ·cases h;exact ZL b trivial
  ·simp only[ZC,NV];obtain⟨m,p,h⟩:=ae h;try refine ZF trivial ?_
   refine aJ (sh:=(fun v=>⟨[(0,.sc (.int .u64 v.1)),(2,.i v.2)],[]⟩)) (s:=m) ?_ ?_
   ·replace h:=p;obtain⟨c,h⟩|⟨c,h⟩:=au h
    ·cases h;exact ZL c trivial
    ·cases h;exact ZL c trivial
   ·simp only[ZC,Gt];obtain⟨t,q,h⟩:=ae h;cases h;exact ZL (ko q) @V91.eq_1
theorem w_gm(a:Int){r:Int}(h:JU a=some r):Ok Tryz.prog 172 [.sc (.int .u64 a)] (.i r):=by
 refine ax aZ m172 rfl ?_;unfold JU at h;simp only[ZC,A172,V91,aB];obtain⟨c,b,h⟩:=ae h;refine ZF trivial ?_;refine ZSG trivial (w_ij _ b) ?_;cases h;exact ZL trivial @V91.eq_1
theorem w_gn(d:Int)(g:Int){r:Bool}(h:IG d g=some r):Ok Tryz.prog 207 [.i d,.i g] (.b r):=by
 refine ax aZ m207 rfl ?_;unfold IG at h;simp only[ZC,A207,V85,aB];obtain⟨l,j,h⟩:=ae h;refine ZF trivial ?_;refine ZSG trivial (RB _ j) ?_;obtain⟨a,h⟩|⟨a,h⟩:=au h
 ·obtain⟨m,k,h⟩:=ae h;refine ZF a ?_;refine ZSG a (RB _ k) ?_;obtain⟨c,h⟩|⟨c,h⟩:=au h
  ·cases h;exact ZL (ZA a c) @V85.eq_1
  ·cases h;exact ZL (ZA a c) @V85.eq_1
 ·cases h;exact ZL a @V85.eq_1
def S_p(a:Int)(b:Int)(c:Int×List Int)(v:Int×List Int):St:=⟨[(0,.sl 1000000000 0 v.2.length),(1,.i a),(2,.i b),(6,.i c.1),(7,.i v.1)],[(1000000000,.arr 1 (v.2.map AV.i))]⟩
def Qr(a:Int)(b:Int)(c:Int×List Int)(v:List Int):St:=⟨[(0,.sl 1000000000 0 v.length),(1,.i a),(2,.i b),(6,.i c.1)],[(1000000000,.arr 1 (v.map AV.i))]⟩
theorem w_p(c:Int)(d:Int)(g:Int×List Int)(a:Int×List Int)(o:(Int×List Int)⊕(List Int))(h:M_p c a=some o):AWP (OkS Tryz.prog) qp (qL [0,1,2,6,7] [1000000000] (S_p c d g) (qX 2 [0,1,2,6] [1000000000] (Qr c d g)) o) (S_p c d g a):=by
 have e:=ZA @S_p.eq_1 @Qr.eq_1;unfold M_p at h;simp only[ZC,S_p,qp];obtain⟨q,t,h⟩:=ae h;try refine ZF trivial ?_
 refine aJ (sh:=(fun v=>⟨[(0,.sl 1000000000 0 a.2.length),(1,.i c),(2,.i d),(6,.i g.1),(7,.i a.1),(30,.b v)],[(1000000000,.arr 1 (a.2.map AV.i))]⟩)) (s:=q) ?_ ?_
 ·replace h:=t;obtain⟨j,h⟩|⟨j,h⟩:=au h
  ·obtain⟨p1,u,h⟩:=ae h;obtain⟨q1,w,h⟩:=ae h;obtain⟨s1,x,h⟩:=ae h;obtain⟨t1,y,h⟩:=ae h;obtain⟨u1,z,h⟩:=ae h;have f:=ZA j (ZA (be u) (ZA w (ZA (be x) y)));refine ZF f ?_;refine ZSG f (w_gn _ _ z) ?_;cases h;exact ZL f trivial
  ·cases h;exact ZL j trivial
 ·simp only[ZC,uP];obtain⟨k,h⟩|⟨k,h⟩:=au h
  ·obtain⟨v1,a1,h⟩:=ae h;obtain⟨b1,c1,h⟩:=ae h;obtain⟨w1,d1,h⟩:=ae h;obtain⟨g1,i1,h⟩:=ae h;obtain⟨l,m,h⟩:=bj h;have j1:(a.2.map AV.i).set (Int.toNat a.1) (.i b1)=l.map AV.i:=by rw[<-m,List.map_set]
   obtain⟨y1,k1,h⟩:=ae h;obtain⟨l1,p,h⟩:=bj h;have m1:(l.map AV.i).set (Int.toNat (IntKind.wrap .i64 (a.1-1))) (.i g1)=l1.map AV.i:=by rw[<-p,List.map_set]
   cases h;exact ZL (ZA k (ZA (be a1) (ZA c1 (ZA (be d1) (ZA i1 (ZA j1 (ZA k1 m1))))))) (ZA e (ZA m.symm p.symm))
  ·cases h;exact ZL k e
def S_y(a:Int)(b:Int)(v:Int×List Int):St:=⟨[(0,.sl 1000000000 0 v.2.length),(1,.i a),(2,.i b),(6,.i v.1)],[(1000000000,.arr 1 (v.2.map AV.i))]⟩
def PS(v:List Int):St:=⟨[],[(1000000000,.arr 1 (v.map AV.i))]⟩
theorem w_y(a:Int)(b:Int)(c:Int×List Int)(o:(Int×List Int)⊕(List Int))(h:M_y a b c=some o):AWP (OkS Tryz.prog) pL (qL [0,1,2,6] [1000000000] (S_y a b) (qX 0 [] [1000000000] (PS)) o) (S_y a b c):=by
 have e:=ZA @S_y.eq_1 @PS.eq_1;unfold M_y at h;simp only[ZC,S_y,pL];obtain⟨d,h⟩|⟨d,h⟩:=au h
 ·obtain⟨k,l,h⟩:=ae h;try refine ZF d ?_
  refine aJ (sh:=(fun v=>⟨[(0,.sl 1000000000 0 v.length),(1,.i a),(2,.i b),(6,.i c.1)],[(1000000000,.arr 1 (v.map AV.i))]⟩)) (s:=k) ?_ ?_
  ·replace h:=l;obtain⟨m,g,h⟩:=ae h;try refine ZF d ?_
   first|refine eE (bn (aF (w_p a b c) g ?_)) (fun τ j=>?_)|refine fV (aF (w_p a b c) g ?_) (fun τ j=>?_)
   ·exact ZK (ZA @S_p.eq_1 @Qr.eq_1)
   ·cases h;try refine ZF trivial ?_
    refine⟨rfl,Shp.sub j (by decide) (by decide) ?_⟩;exact ZK @Qr.eq_1
  ·simp only[ZC,vO];cases h;exact ZL d e
 ·cases h;exact ZL d e
theorem w_go(a:Int)(b:Int)(c:List Int){r:List Int}(h:Li a b c=some r):OkM Tryz.prog 201 [.sl 1000000000 0 c.length,.i a,.i b] [(1000000000,.arr 1 (c.map AV.i))] (.tup []) ([(1000000000,.arr 1 (r.map AV.i))]):=by
 refine bJ (lr:=[1000000000]) aZ Wq rfl rfl ?_;unfold Li at h;simp only[ZC,IK,co];obtain⟨j,d,h⟩:=ae h;try refine ZF trivial ?_
 first|refine eE (bn (aF (w_y a b) d ?_)) (fun τ g=>?_)|refine fV (aF (w_y a b) d ?_) (fun τ g=>?_)
 ·exact ZK (ZA @S_y.eq_1 @PS.eq_1)
 ·cases h;refine kG g (by decide) ?_ rfl;exact ZK (ZA @co.eq_1 @PS.eq_1)
def Pb(c:Int)(d:Int)(g:Int)(a:List Int)(v:Unit):St:=⟨[(0,.sl 1000000000 0 a.length),(1,.i c),(2,.i d),(3,.i g),(8,.b true),(9,.b true)],[(1000000000,.arr 1 (a.map AV.i))]⟩
def TB(v:Empty):St:=⟨[],[]⟩
theorem w_bf(b:Int)(c:Int)(d:Int)(g:List Int)(j:Unit)(o:Unit⊕(Empty⊕(List Int)))(h:PO b c d g j=some o):AWP (OkS Tryz.prog) qC (qL [0,1,2,3,8,9] [1000000000] (Pb b c d g) (qS (qX 0 [] [] (TB)) (qM co [1000000000] (fun(r:List Int)=>.tup []) (fun(r:List Int)=>[(1000000000,.arr 1 (r.map AV.i))]))) o) (Pb b c d g j):=by
 unfold PO at h;simp only[ZC,Pb,qC];obtain⟨a,h⟩|⟨a,h⟩:=au h
 ·obtain⟨m,k,h⟩:=ae h;refine ZF a ?_;refine ZWG a (w_go _ _ _ k) [1000000000] [] ?_;cases h;exact ZL a @co.eq_1
 ·obtain⟨l,h⟩|⟨l,h⟩:=au h
  ·cases h
  ·cases h
theorem w_hw(b:Int)(c:Int)(d:Int)(a:List Int){r:List Int}(h:QK b c d a=some r):OkM Tryz.prog 171 [.sl 1000000000 0 a.length,.i b,.i c,.i d] [(1000000000,.arr 1 (a.map AV.i))] (.tup []) ([(1000000000,.arr 1 (r.map AV.i))]):=by
 refine bJ (lr:=[1000000000]) aZ Vk rfl rfl ?_;unfold QK at h;simp only[ZC,MH,co];obtain⟨g,j,h⟩:=ae h;try refine ZF trivial ?_
 first|refine nS (o:=g) (br Jq (aF (w_bf b c d a) j ?_)) (fun k hv τ l=>?_) (fun m hv e τ hne hq=>?_)|refine xb (o:=g) Jq (aF (w_bf b c d a) j ?_) (fun k hv τ l=>?_) (fun m hv e τ hne hq=>?_)
 ·exact ZK (ZA @Pb.eq_1 @TB.eq_1)
 ·exact k.elim
 ·subst hv;simp only[] at h;obtain⟨rfl,p⟩:=hq;cases h;exact p
theorem w_gp(a:List Int){r:List Int}(h:HN a=some r):OkM Tryz.prog 111 [.sl 1000000000 0 a.length] [(1000000000,.arr 1 (a.map AV.i))] (.tup []) ([(1000000000,.arr 1 (r.map AV.i))]):=by
 refine bJ (lr:=[1000000000]) aZ Wt rfl rfl ?_;unfold HN at h;simp only[ZC,Lk,co];obtain⟨d,b,h⟩:=ae h;refine ZF trivial ?_;refine ZSG trivial (w_gm _ b) ?_;obtain⟨g,c,h⟩:=ae h;refine ZF trivial ?_;refine ZWG trivial (w_hw _ _ _ _ c) [1000000000] [] ?_;cases h;exact ZL trivial @co.eq_1
def S_v(a:Nat)(b:Nat)(c:Int)(v:Int×Int×List Int):St:=⟨[(0,.sl 1000000000 a b),(3,.i v.1),(4,.sl 1000000000 (a+(Int.toNat c)) (b-(Int.toNat c))),(5,.i v.2.1)],[(1000000000,.arr 1 (v.2.2.map AV.i))]⟩
def Pk(a:Nat)(b:Nat)(v:Int×List Int):St:=⟨[(0,.sl 1000000000 a b),(3,.i v.1)],[(1000000000,.arr 1 (v.2.map AV.i))]⟩
theorem w_v(a:Nat)(b:Nat)(g:Int)(c:Int×Int×List Int)(o:(Int×Int×List Int)⊕(Int×List Int))(h:M_v a b g c=some o):AWP (OkS Tryz.prog) pS (qL [0,3,4,5] [1000000000] (S_v a b g) (qX 2 [0,3] [1000000000] (Pk a b)) o) (S_v a b g c):=by
 have e:=ZA @S_v.eq_1 @Pk.eq_1;unfold M_v at h;simp only[ZC,S_v,pS];obtain⟨d,h⟩|⟨d,h⟩:=au h
 ·obtain⟨x,k,h⟩:=ae h;obtain⟨s,l,h⟩:=ae h;obtain⟨y,m,h⟩:=ae h;obtain⟨z,p,h⟩:=ae h;obtain⟨j,h⟩|⟨j,h⟩:=au h
  ·obtain⟨a1,t,h⟩:=ae h;obtain⟨b1,u,h⟩:=ae h;obtain⟨v,q,h⟩:=bj h;have w:(c.2.2.map AV.i).set (a+(Int.toNat c.1)) (.i s)=v.map AV.i:=by rw[<-q,List.map_set]
   cases h;exact ZL (ZA d (ZA (be k) (ZA l (ZA (be m) (ZA p (ZA j (ZA (be t) (ZA u w)))))))) (ZA e q.symm)
  ·cases h;exact ZL (ZA d (ZA (be k) (ZA l (ZA (be m) (ZA p j))))) e
 ·cases h;exact ZL d e
def LS(a:Nat)(b:Nat)(c:List Int)(v:Int):St:=⟨[(0,.sl 1000000000 a b),(3,.i v)],[(1000000000,.arr 1 (c.map AV.i))]⟩
def BC(a:Nat)(b:Nat)(c:List Int)(v:Unit):St:=⟨[(0,.sl 1000000000 a b)],[(1000000000,.arr 1 (c.map AV.i))]⟩
theorem w_ab(a:Nat)(b:Nat)(c:List Int)(j:Int)(o:Int⊕(Unit⊕(Nat×Nat×List Int)))(h:FE a b c j=some o):AWP (OkS Tryz.prog) qr (qL [0,3] [1000000000] (LS a b c) (qS (qX 0 [0] [1000000000] (BC a b c)) (qM V91 [1000000000] (fun(r:Nat×Nat×List Int)=>.sl 1000000000 r.1 r.2.1) (fun(r:Nat×Nat×List Int)=>[(1000000000,.arr 1 (r.2.2.map AV.i))]))) o) (LS a b c j):=by
 have e:=ZA @LS.eq_1 @BC.eq_1;unfold FE at h;simp only[ZC,LS,qr];obtain⟨d,h⟩|⟨d,h⟩:=au h
 ·obtain⟨a1,l,h⟩:=ae h;obtain⟨b1,m,h⟩:=ae h;obtain⟨c1,p,h⟩:=ae h;obtain⟨d1,q,h⟩:=ae h;obtain⟨k,h⟩|⟨k,h⟩:=au h
  ·obtain⟨g1,v,h⟩:=ae h;obtain⟨g,w,h⟩:=ae h;have f:=ZA d (ZA (be l) (ZA m (ZA (be p) (ZA q (ZA k (be v))))));try refine ZF f ?_
   refine aJ (bn (aF (w_v a b j) w ?_)) ?_
   ·exact ZK (ZA @S_v.eq_1 @Pk.eq_1)
   ·simp only[ZC,Pk,vC];obtain⟨i1,x,h⟩:=ae h;obtain⟨s,t,h⟩:=bj h;have u:ec (g.2.map AV.i) (a+(Int.toNat g.1)) (List.replicate (b-(Int.toNat g.1)) (.i 0:AV))=s.map AV.i:=by rw[<-t,<-Ic]<;>simp[List.map_take]
    try simp only[Int.toNat_natCast] at u
    have y:s.length=g.2.length:=by rw[<-t];exact ox _ _ _
    obtain⟨j1,z,h⟩:=ae h;cases h;exact ZL (ZA f (ZA (be x) (ZA u (be z)))) (ZA @V91.eq_1 y)
  ·cases h;exact ZL (ZA d (ZA (be l) (ZA m (ZA (be p) (ZA q k))))) e
 ·cases h;exact ZL d e
theorem w_ez(b:Nat)(c:Nat)(d:List Int){r:Nat×Nat×List Int}(h:Iq b c d=some r):OkM Tryz.prog 112 [.sl 1000000000 b c] [(1000000000,.arr 1 (d.map AV.i))] (.sl 1000000000 r.1 r.2.1) ([(1000000000,.arr 1 (r.2.2.map AV.i))]):=by
 refine bJ (lr:=[1000000000]) aZ Up rfl rfl ?_;unfold Iq at h;simp only[ZC,NE,V91];obtain⟨a,h⟩|⟨a,h⟩:=au h
 ·cases h;exact ZL a @V91.eq_1
 ·obtain⟨g,j,h⟩:=ae h;try refine ZF a ?_
  refine bl (o:=g) (br Jq (aF (w_ab b c d) j ?_)) (fun l hv=>?_) (fun m hv e τ hne hq=>?_)
  ·exact ZK (ZA @LS.eq_1 @BC.eq_1)
  ·subst hv;simp only[] at h;simp only[ZC,BC,xd];cases h;exact ZL a @V91.eq_1
  ·subst hv;simp only[] at h;obtain⟨rfl,k⟩:=hq;cases h;exact k
def GD(a:List Int)(b:List Int)(v:Int×List Int):St:=⟨[(1,.lst .o 1 (b.map AV.i)),(5,.sl 5 0 v.2.length),(9,.lst .o 1 (a.map AV.i)),(10,.i (a.length:Int)),(11,.i v.1)],[(5,.arr 1 (v.2.map AV.i))]⟩
theorem w_ay(c:List Int)(d:List Int)(a:Int×List Int)(o:(Int×List Int)⊕(List Int))(h:Ab c d a=some o):AWP (OkS Tryz.prog) Mm (qL [1,5,9,10,11] [5] (GD c d) (qX 0 [5] [5] (oD)) o) (GD c d a):=by
 have e:=ZA @GD.eq_1 @oD.eq_1;unfold Ab at h;simp only[ZC,GD,Mm];obtain⟨g,h⟩|⟨g,h⟩:=au h
 ·obtain⟨t,u,h⟩:=ae h;obtain⟨z,v,h⟩:=ae h;have f:=ZA g (aO u);refine ZF f ?_;refine ZSG f (w_dw _ _ v) ?_;obtain⟨j,h⟩|⟨j,h⟩:=au h
  ·obtain⟨k,b,h⟩:=bj h;have w:Row.arr 1 [(.i t:AV)]=Row.arr 1 (k.map AV.i):=by rw[<-b];rfl
   have m:k.length=1:=by rw[<-b];rfl
   obtain⟨a1,x,h⟩:=ae h;have p:=be x;obtain⟨q,l,h⟩:=bj h;have y:a.2.map AV.i++k.map AV.i=q.map AV.i:=by rw[<-l,List.map_append]
   have s:a.2.length+1=q.length:=by simp[<-b,<-l]<;>omega
   rw[s] at p;cases h;exact ZL (ZA f (ZA j (ZA w (ZA m (ZA p (ZA y s)))))) (ZA e (ZA b.symm (ZA l.symm m)))
  ·cases h;exact ZL (ZA f j) e
 ·cases h;exact ZL g e
theorem QW(a:List Int)(b:List Int){r:List Int}(h:vP a b=some r):Ok Tryz.prog 68 [.lst .o 1 (a.map AV.i),.lst .o 1 (b.map AV.i)] (.lst .u 1 (r.map AV.i)):=by
 refine ax aZ m68 rfl ?_;unfold vP at h;simp only[ZC,A68,V85,aB];obtain⟨p,d,h⟩:=ae h;try refine ZF trivial ?_
 refine aJ (bn (aF (w_ay a b) d ?_)) ?_
 ·exact ZK (ZA @GD.eq_1 @oD.eq_1)
 ·simp only[ZC,oD,Tx];obtain⟨q,g,h⟩:=ae h;refine ZF trivial ?_;refine ZWG trivial (w_gp _ g) [1000000000] [] ?_;obtain⟨c,j,h⟩:=ae h;refine ZF trivial ?_;refine ZWG trivial (w_ez _ _ _ j) [1000000000] [] ?_;obtain⟨k,l,h⟩:=bj h;have m:sub (c.2.2.map AV.i) c.1 c.2.1=k.map AV.i:=by rw[de,l]
  cases h;exact ZL m @V85.eq_1
theorem w_dx(a:aj)(c:aj){r:Bool}(h:Fn a c=some r):Ok Tryz.prog 131 [.agg [.i a.Id,.i a.F.N,.lst .o 1 (a.F.F.map AV.i),.i a.N.N,.i a.N.F],.agg [.i c.Id,.i c.F.N,.lst .o 1 (c.F.F.map AV.i),.i c.N.N,.i c.N.F]] (.b r):=by
 refine ax aZ m131 rfl ?_;unfold Fn at h;simp only[ZC,A131,V85,aB];obtain⟨l,g,h⟩:=ae h;refine ZF trivial ?_;refine ZSG trivial (Sd _ g) ?_;obtain⟨m,j,h⟩:=ae h;refine ZF trivial ?_;refine ZSG trivial (Sd _ j) ?_;obtain⟨d,h⟩|⟨d,h⟩:=au h
 ·obtain⟨p,k,h⟩:=ae h;refine ZF d ?_;refine ZUG d (QW _ _ k) ?_;cases h;exact ZL d @V85.eq_1
 ·cases h;exact ZL d @V85.eq_1
theorem w_dy(a:aj)(p1Z0:aj){r:Bool}(h:Ew a p1Z0=some r):Ok Tryz.prog 130 [.agg [.i a.Id,.i a.F.N,.lst .o 1 (a.F.F.map AV.i),.i a.N.N,.i a.N.F],.bp .o (.agg [.i p1Z0.Id,.i p1Z0.F.N,.lst .o 1 (p1Z0.F.F.map AV.i),.i p1Z0.N.N,.i p1Z0.N.F]) 0] (.b r):=by
 refine ax aZ m130 rfl ?_;unfold Ew at h;simp only[ZC,A130,lJ,aB];obtain⟨d,c,h⟩:=ae h;refine ZF trivial ?_;refine ZSG trivial (w_dx _ _ c) ?_;cases h;exact ZL trivial @lJ.eq_1
def Hw(a:List aj)(F_fZ0:Nat)(C_fZ0:List AV)(v:Int):St:=⟨[(0,.lst .o 5 (a.map (ah .o))),(1,.fn F_fZ0 C_fZ0),(7,.i (a.length:Int)),(8,.i v)],[]⟩
theorem w_at(c:List aj)(j:aj->Option Bool)(F_fZ0:Nat)(C_fZ0:List AV)(hC_fZ0:rx C_fZ0)(hf_fZ0:∀(x0:aj)(r:Bool),j x0=some r->Ok Tryz.prog F_fZ0 ((.agg [.i x0.Id,.i x0.F.N,.lst .o 1 (x0.F.F.map AV.i),.i x0.N.N,.i x0.N.F])::C_fZ0) (.b r))(k:Int)(o:Int⊕(Unit⊕Int))(h:uH c j k=some o):AWP (OkS Tryz.prog) xV (qL [0,1,7,8] [] (Hw c F_fZ0 C_fZ0) (qS (qX 0 [] [] (bP)) (qR V85 (fun r=>.i r))) o) (Hw c F_fZ0 C_fZ0 k):=by
 have e:=ZA @Hw.eq_1 @bP.eq_1;unfold uH at h;simp only[ZC,Hw,xV];obtain⟨a,h⟩|⟨a,h⟩:=au h
 ·obtain⟨m,d,h⟩:=ae h;obtain⟨p,l,h⟩:=ae h;have f:=ZA a (aO d);refine ZF f ?_;have f:=ZA f hC_fZ0.1;refine ZSG f (hf_fZ0 _ _ l) ?_;obtain⟨g,h⟩|⟨g,h⟩:=au h
  ·cases h;exact ZL (ZA a (ZA (aO d) g)) (ZA @V85.eq_1 (ZA hC_fZ0.2 ((dw hC_fZ0))))
  ·cases h;exact ZL (ZA a (ZA (aO d) g)) (ZA e (ZA hC_fZ0.2 ((dw hC_fZ0))))
 ·cases h;exact ZL a (ZA e (ZA hC_fZ0.2 ((dw hC_fZ0))))
theorem UK(a:List aj)(c:aj->Option Bool){r:Int}(h:vI a c=some r)(F_fZ0:Nat)(C_fZ0:List AV)(hC_fZ0:rx C_fZ0)(hf_fZ0:∀(x0:aj)(r:Bool),c x0=some r->Ok Tryz.prog F_fZ0 ((.agg [.i x0.Id,.i x0.F.N,.lst .o 1 (x0.F.F.map AV.i),.i x0.N.N,.i x0.N.F])::C_fZ0) (.b r)):Ok Tryz.prog 133 [.lst .o 5 (a.map (ah .o)),.fn F_fZ0 C_fZ0] (.i r):=by
 refine ax aZ m133 rfl ?_;unfold vI at h;simp only[ZC,A133,V85,aB];obtain⟨d,g,h⟩:=ae h;try refine ZF trivial ?_
 refine bl (o:=d) (br cz (aF (w_at a c F_fZ0 C_fZ0 hC_fZ0 hf_fZ0) g ?_)) (fun k hv=>?_) (fun l hv e τ hne hq=>?_)
 ·exact ZK (ZA @Hw.eq_1 (ZA @bP.eq_1 (ZA hC_fZ0.2 ((dw hC_fZ0)))))
 ·subst hv;simp only[] at h;simp only[ZC,bP,Ng];cases h;exact ZL trivial (ZA @V85.eq_1 (ZA hC_fZ0.2 ((dw hC_fZ0))))
 ·subst hv;simp only[] at h;obtain⟨rfl,j⟩:=hq;cases h;exact j
theorem Qp(a:List aj)(c:aj->Option Bool){r:Bool}(h:tF a c=some r)(F_fZ0:Nat)(C_fZ0:List AV)(hC_fZ0:rx C_fZ0)(hf_fZ0:∀(x0:aj)(r:Bool),c x0=some r->Ok Tryz.prog F_fZ0 ((.agg [.i x0.Id,.i x0.F.N,.lst .o 1 (x0.F.F.map AV.i),.i x0.N.N,.i x0.N.F])::C_fZ0) (.b r)):Ok Tryz.prog 65 [.lst .o 5 (a.map (ah .o)),.fn F_fZ0 C_fZ0] (.b r):=by
 refine ax aZ m65 rfl ?_;unfold tF at h;simp only[ZC,A65,V85,aB];obtain⟨g,d,h⟩:=ae h;refine ZF trivial ?_;refine ZSG hC_fZ0.1 (UK _ _ d F_fZ0 C_fZ0 hC_fZ0 hf_fZ0) ?_;cases h;exact ZL trivial (ZA @V85.eq_1 (ZA hC_fZ0.2 ((dw hC_fZ0))))
def zQ(a:aK)(v:Int):St:=⟨[(1,.pt 1 0 0),(16,.lst .o 5 (a.N.map (ah .o))),(17,.i (a.N.length:Int)),(18,.i v)],[(1,.var (.agg [.lst .o 1 (a.F.N.map AV.z),.lst .o 4 (a.F.F.map (ai .o)),.lst .o 5 (a.N.map (ah .o))]))]⟩
theorem w_ax(g:aK)(q:Int)(o:Int⊕(Unit⊕Bool))(h:FP g q=some o):AWP (OkS Tryz.prog) MR (qL [1,16,17,18] [1] (zQ g) (qS (qX 0 [] [] (bP)) (qR V91 (fun r=>.b r))) o) (zQ g q):=by
 unfold FP at h;simp only[ZC,zQ,MR];obtain⟨j,h⟩|⟨j,h⟩:=au h
 ·obtain⟨a,t,h⟩:=ae h;obtain⟨m1,u,h⟩:=ae h;have f:=ZA j (aO t);refine ZF f ?_;refine ZSG f (w_gl _ _ u) ?_;obtain⟨c,h⟩|⟨c,h⟩:=au h
  ·cases h;exact ZL (ZA f c) @V91.eq_1
  ·obtain⟨d,h⟩|⟨d,h⟩:=au h
   ·obtain⟨p1,s,h⟩:=ae h;obtain⟨l,h⟩|⟨l,h⟩:=au h
    ·cases h;exact ZL (ZA f (ZA c (ZA d (ZA (aO s) l)))) @V91.eq_1
    ·obtain⟨q1,v,h⟩:=ae h;obtain⟨w,x,y,z,a1⟩:=GM (ah .o) v;obtain⟨s1,b1,h⟩:=ae h;have f:=ZA f (ZA c (ZA d (ZA (aO s) (ZA l (ZA w (ZA x (ZA y (ZA z a1))))))));refine ZF f ?_;refine ZSG f (Qp _ _ b1 130 [.bp .o (.agg [.i a.Id,.i a.F.N,.lst .o 1 (a.F.F.map AV.i),.i a.N.N,.i a.N.F]) 0] ⟨fun ρ k=>by simp only[VS1,VS2,VS3,VS4,VS5,VS6,VT1,VT2,bx,bz,decide_true,decide_false,List.nodup_nil,List.nodup_cons,cR,cP,cS,ne_eq,not_false_eq_true,Int.reduceEq,Int.reduceNe,true_and,false_and,Nat.reduceSub,Nat.reduceMul,↓reduceIte,reduceCtorEq,Nat.reduceEqDiff,Nat.reduceAdd,Nat.reduceLeDiff,Int.reduceLE],by simp[aM,AV.ments]⟩ (fun _ _ h=>w_dy _ _ h)) ?_;obtain⟨m,h⟩|⟨m,h⟩:=au h
     ·cases h;exact ZL (ZA f m) @V91.eq_1
     ·cases h;exact ZL (ZA f m) (ZA @zQ.eq_1 @bP.eq_1)
   ·obtain⟨t1,c1,h⟩:=ae h;obtain⟨d1,g1,i1,j1,k1⟩:=GM (ah .o) c1;obtain⟨u1,l1,h⟩:=ae h;have f:=ZA f (ZA c (ZA d (ZA d1 (ZA g1 (ZA i1 (ZA j1 k1))))));refine ZF f ?_;refine ZSG f (Qp _ _ l1 130 [.bp .o (.agg [.i a.Id,.i a.F.N,.lst .o 1 (a.F.F.map AV.i),.i a.N.N,.i a.N.F]) 0] ⟨fun ρ k=>by simp only[VS1,VS2,VS3,VS4,VS5,VS6,VT1,VT2,bx,bz,decide_true,decide_false,List.nodup_nil,List.nodup_cons,cR,cP,cS,ne_eq,not_false_eq_true,Int.reduceEq,Int.reduceNe,true_and,false_and,Nat.reduceSub,Nat.reduceMul,↓reduceIte,reduceCtorEq,Nat.reduceEqDiff,Nat.reduceAdd,Nat.reduceLeDiff,Int.reduceLE],by simp[aM,AV.ments]⟩ (fun _ _ h=>w_dy _ _ h)) ?_;obtain⟨p,h⟩|⟨p,h⟩:=au h
    ·cases h;exact ZL (ZA f p) @V91.eq_1
    ·cases h;exact ZL (ZA f p) (ZA @zQ.eq_1 @bP.eq_1)
 ·cases h;exact ZL j (ZA @zQ.eq_1 @bP.eq_1)
theorem w_dk(a:aK){r:Bool}(h:zJ a=some r):Ok Tryz.prog 63 [.agg [.lst .o 1 (a.F.N.map AV.z),.lst .o 4 (a.F.F.map (ai .o)),.lst .o 5 (a.N.map (ah .o))]] (.b r):=by
 refine ax aZ m63 rfl ?_;unfold zJ at h;simp only[ZC,A63,V91,aB];obtain⟨g,i,h⟩:=ae h;try refine ZF trivial ?_
 refine aJ (sh:=(fun v=>⟨[(1,.pt 1 0 0),(14,.b v)],[(1,.var (.agg [.lst .o 1 (a.F.N.map AV.z),.lst .o 4 (a.F.F.map (ai .o)),.lst .o 5 (a.N.map (ah .o))]))]⟩)) (s:=g) ?_ ?_
 ·replace h:=i;obtain⟨p,j,h⟩:=ae h;refine ZF trivial ?_;refine ZSG trivial (w_dv _ j) ?_;obtain⟨d,h⟩|⟨d,h⟩:=au h
  ·cases h;exact ZL d trivial
  ·cases h;exact ZL d trivial
 ·simp only[ZC,TR];obtain⟨c,h⟩|⟨c,h⟩:=au h
  ·cases h;exact ZL c @V91.eq_1
  ·obtain⟨k,l,h⟩:=ae h;try refine ZF c ?_
   refine bl (o:=k) (br cz (aF (w_ax a) l ?_)) (fun q hv=>?_) (fun t hv e τ hne hq=>?_)
   ·exact ZK (ZA @zQ.eq_1 @bP.eq_1)
   ·subst hv;simp only[] at h;simp only[ZC,bP,Th];cases h;exact ZL c @V91.eq_1
   ·subst hv;simp only[] at h;obtain⟨rfl,m⟩:=hq;cases h;exact m
def MV(a:List Int)(b:Int)(v:Int):St:=⟨[(0,.lst .o 1 (a.map AV.i)),(1,.i b),(7,.lst .o 1 (a.map AV.i)),(8,.i (a.length:Int)),(9,.i v)],[]⟩
theorem w_bz(d:List Int)(g:Int)(k:Int)(o:Int⊕(Unit⊕Bool))(h:CV d g k=some o):AWP (OkS Tryz.prog) Jf (qL [0,1,7,8,9] [] (MV d g) (qS (qX 0 [] [] (bP)) (qR V85 (fun r=>.b r))) o) (MV d g k):=by
 have e:=ZA @MV.eq_1 @bP.eq_1;unfold CV at h;simp only[ZC,MV,Jf];obtain⟨i,h⟩|⟨i,h⟩:=au h
 ·obtain⟨q,m,h⟩:=ae h;obtain⟨s,p,h⟩:=ae h;have f:=ZA i (aO m);refine ZF f ?_;refine ZSG f (w_i _ _ _ p) ?_;obtain⟨a,h⟩|⟨a,h⟩:=au h
  ·cases h;exact ZL (ZA f a) @V85.eq_1
  ·obtain⟨c,h⟩|⟨c,h⟩:=au h
   ·obtain⟨t,l,h⟩:=ae h;obtain⟨j,h⟩|⟨j,h⟩:=au h
    ·cases h;exact ZL (ZA f (ZA a (ZA c (ZA (aO l) j)))) @V85.eq_1
    ·cases h;exact ZL (ZA f (ZA a (ZA c (ZA (aO l) j)))) e
   ·cases h;exact ZL (ZA f (ZA a c)) e
 ·cases h;exact ZL i e
theorem w_gq(a:List Int)(c:Int){r:Bool}(h:Ol a c=some r):Ok Tryz.prog 64 [.lst .o 1 (a.map AV.i),.i c] (.b r):=by
 refine ax aZ m64 rfl ?_;unfold Ol at h;simp only[ZC,A64,V85,aB];obtain⟨d,g,h⟩:=ae h;try refine ZF trivial ?_
 refine bl (o:=d) (br cz (aF (w_bz a c) g ?_)) (fun k hv=>?_) (fun l hv e τ hne hq=>?_)
 ·exact ZK (ZA @MV.eq_1 @bP.eq_1)
 ·subst hv;simp only[] at h;simp only[ZC,bP,Un];cases h;exact ZL trivial @V85.eq_1
 ·subst hv;simp only[] at h;obtain⟨rfl,j⟩:=hq;cases h;exact j
theorem w_hx(a:aj)(p1Z0:Int){r:Bool}(h:PX a p1Z0=some r):Ok Tryz.prog 134 [.agg [.i a.Id,.i a.F.N,.lst .o 1 (a.F.F.map AV.i),.i a.N.N,.i a.N.F],.bp .o (.i p1Z0) 0] (.b r):=by
 refine ax aZ m134 rfl ?_;unfold PX at h;simp only[ZC,A134,lJ,aB];cases h;exact ZL trivial @lJ.eq_1
theorem w_dz(a:aq)(b:Int){r:Int}(h:Ft a b=some r):Ok Tryz.prog 67 [.agg [.lst .o 1 (a.F.F.N.map AV.z),.lst .o 4 (a.F.F.F.map (ai .o)),.lst .o 5 (a.F.N.map (ah .o)),.lst .o 5 (a.N.map (ah .o)),.lst .o 1 (a.L.map AV.i)],.i b] (.i r):=by
 refine ax aZ m67 rfl ?_;unfold Ft at h;simp only[ZC,A67,V85,aB];obtain⟨d,c,h⟩:=ae h;refine ZF trivial ?_;refine ZSG trivial (UK _ _ c 134 [.bp .o (.i b) 0] ⟨fun ρ k=>by simp only[VS1,VS2,VS3,VS4,VS5,VS6,VT1,VT2,bx,bz,decide_true,decide_false,List.nodup_nil,List.nodup_cons,cR,cP,cS,ne_eq,not_false_eq_true,Int.reduceEq,Int.reduceNe,true_and,false_and,Nat.reduceSub,Nat.reduceMul,↓reduceIte,reduceCtorEq,Nat.reduceEqDiff,Nat.reduceAdd,Nat.reduceLeDiff,Int.reduceLE],by simp[aM,AV.ments]⟩ (fun _ _ h=>w_hx _ _ h)) ?_;cases h;exact ZL trivial @V85.eq_1
theorem UM(a:af)(b:ar){r:Int}(h:xS a b=some r):Ok Tryz.prog 69 [.agg [.lst .o 1 (a.N.map AV.z),.lst .o 4 (a.F.map (ai .o))],.agg [.i b.N,.lst .o 1 (b.F.map AV.i)]] (.i r):=by
 refine ax aZ m69 rfl ?_;unfold xS at h;simp only[ZC,A69,V85,aB];obtain⟨j,c,h⟩:=ae h;refine ZF trivial ?_;refine ZUG trivial (w_dm _ _ c) ?_;obtain⟨k,d,h⟩:=ae h;obtain⟨l,g,h⟩:=ae h;cases h;exact ZL (ZA (be d) g) @V85.eq_1
theorem w_gr(a:aj)(p1Z0:aq)(p2Z0:af){r:Bool}(h:Md a p1Z0 p2Z0=some r):Ok Tryz.prog 66 [.agg [.i a.Id,.i a.F.N,.lst .o 1 (a.F.F.map AV.i),.i a.N.N,.i a.N.F],.bp .o (.agg [.lst .o 1 (p1Z0.F.F.N.map AV.z),.lst .o 4 (p1Z0.F.F.F.map (ai .o)),.lst .o 5 (p1Z0.F.N.map (ah .o)),.lst .o 5 (p1Z0.N.map (ah .o)),.lst .o 1 (p1Z0.L.map AV.i)]) 0,.bp .o (.agg [.lst .o 1 (p2Z0.N.map AV.z),.lst .o 4 (p2Z0.F.map (ai .o))]) 0] (.b r):=by
 refine ax aZ m66 rfl ?_;unfold Md at h;simp only[ZC,A66,V85,aB];obtain⟨l,m,h⟩:=ae h;refine ZF trivial ?_;refine ZSG trivial (w_dz _ _ m) ?_;obtain⟨p,q,h⟩:=ae h;try refine ZF trivial ?_
 refine aJ (sh:=(fun v=>⟨[(1,.bp .o (.agg [.lst .o 1 (p1Z0.F.F.N.map AV.z),.lst .o 4 (p1Z0.F.F.F.map (ai .o)),.lst .o 5 (p1Z0.F.N.map (ah .o)),.lst .o 5 (p1Z0.N.map (ah .o)),.lst .o 1 (p1Z0.L.map AV.i)]) 0),(2,.bp .o (.agg [.lst .o 1 (p2Z0.N.map AV.z),.lst .o 4 (p2Z0.F.map (ai .o))]) 0),(3,.pt 3 0 0),(5,.i l),(22,.b v)],[(3,.var (.agg [.i a.Id,.i a.F.N,.lst .o 1 (a.F.F.map AV.i),.i a.N.N,.i a.N.F]))]⟩)) (s:=p) ?_ ?_
 ·replace h:=q;obtain⟨c,h⟩|⟨c,h⟩:=au h
  ·cases h;exact ZL c trivial
  ·obtain⟨x,t,h⟩:=ae h;refine ZF c ?_;refine ZUG c (QW _ _ t) ?_;cases h;exact ZL c trivial
 ·simp only[ZC,Tj];obtain⟨d,h⟩|⟨d,h⟩:=au h
  ·cases h;exact ZL d @V85.eq_1
  ·obtain⟨y,k,h⟩:=ae h;obtain⟨g,h⟩|⟨g,h⟩:=au h
   ·cases h;exact ZL (ZA d (ZA (aO k) g)) @V85.eq_1
   ·obtain⟨a1,u,h⟩:=ae h;have f:=ZA d (ZA (aO k) g);refine ZF f ?_;refine ZSG f (UM _ _ u) ?_;obtain⟨b1,w,h⟩:=ae h;refine ZF f ?_;refine ZSG f (UM _ _ w) ?_;obtain⟨j,h⟩|⟨j,h⟩:=au h
    ·cases h;exact ZL (ZA f j) @V85.eq_1
    ·cases h;exact ZL (ZA f j) @V85.eq_1
theorem w_gs(a:aq){r:Bool}(h:Hf a=some r):Ok Tryz.prog 16 [.agg [.lst .o 1 (a.F.F.N.map AV.z),.lst .o 4 (a.F.F.F.map (ai .o)),.lst .o 5 (a.F.N.map (ah .o)),.lst .o 5 (a.N.map (ah .o)),.lst .o 1 (a.L.map AV.i)]] (.b r):=by
 refine ax aZ m16 rfl ?_;unfold Hf at h;simp only[ZC,A16,V91,aB];obtain⟨j,l,h⟩:=ae h;try refine ZF trivial ?_
 refine aJ (sh:=(fun v=>⟨[(1,.pt 1 0 0),(3,.pt 3 0 0),(27,.b v)],[(1,.var (.agg [.lst .o 1 (a.F.F.N.map AV.z),.lst .o 4 (a.F.F.F.map (ai .o)),.lst .o 5 (a.F.N.map (ah .o)),.lst .o 5 (a.N.map (ah .o)),.lst .o 1 (a.L.map AV.i)])),(3,.var (.agg [.lst .o 1 (a.F.F.N.map AV.z),.lst .o 4 (a.F.F.F.map (ai .o))]))]⟩)) (s:=j) ?_ ?_
 ·replace h:=l;obtain⟨u,m,h⟩:=ae h;refine ZF trivial ?_;refine ZSG trivial (w_dk _ m) ?_;obtain⟨c,h⟩|⟨c,h⟩:=au h
  ·cases h;exact ZL c trivial
  ·obtain⟨w,p,h⟩:=ae h;refine ZF c ?_;refine ZSG c (w_dk _ p) ?_;obtain⟨g,h⟩|⟨g,h⟩:=au h
   ·cases h;exact ZL (ZA c g) trivial
   ·obtain⟨x,q,h⟩:=ae h;have f:=ZA c g;refine ZF f ?_;refine ZSG f (w_gq _ _ q) ?_;cases h;exact ZL f trivial
 ·simp only[ZC,TH];obtain⟨d,h⟩|⟨d,h⟩:=au h
  ·cases h;exact ZL d @V91.eq_1
  ·obtain⟨y,t,h⟩:=ae h;refine ZF d ?_;refine ZSG d (Qp _ _ t 66 [.bp .o (.agg [.lst .o 1 (a.F.F.N.map AV.z),.lst .o 4 (a.F.F.F.map (ai .o)),.lst .o 5 (a.F.N.map (ah .o)),.lst .o 5 (a.N.map (ah .o)),.lst .o 1 (a.L.map AV.i)]) 0,.bp .o (.agg [.lst .o 1 (a.F.F.N.map AV.z),.lst .o 4 (a.F.F.F.map (ai .o))]) 0] ⟨fun ρ k=>by simp only[VS1,VS2,VS3,VS4,VS5,VS6,VT1,VT2,bx,bz,decide_true,decide_false,List.nodup_nil,List.nodup_cons,cR,cP,cS,ne_eq,not_false_eq_true,Int.reduceEq,Int.reduceNe,true_and,false_and,Nat.reduceSub,Nat.reduceMul,↓reduceIte,reduceCtorEq,Nat.reduceEqDiff,Nat.reduceAdd,Nat.reduceLeDiff,Int.reduceLE],by simp[aM,AV.ments]⟩ (fun _ _ h=>w_gr _ _ _ h)) ?_;cases h;exact ZL d @V91.eq_1
theorem w_hy(a:af){r:af}(h:QR a=some r):Ok Tryz.prog 157 [.agg [.lst .o 1 (a.N.map AV.z),.lst .o 4 (a.F.map (ai .o))]] (.agg [.lst .u 1 (r.N.map AV.z),.lst .u 4 (r.F.map (ai .u))]):=by
 refine ax aZ m157 rfl ?_;unfold QR at h;simp only[ZC,A157,V37,aB];obtain⟨d,b,h⟩:=ae h;obtain⟨g,c,h⟩:=ae h;cases h;exact ZL (ZA (be b) (be c)) @V37.eq_1
theorem w_ea(a:ar){r:ar}(h:DL a=some r):Ok Tryz.prog 108 [.agg [.i a.N,.lst .o 1 (a.F.map AV.i)]] (.agg [.i r.N,.lst .u 1 (r.F.map AV.i)]):=by
 refine ax aZ m108 rfl ?_;unfold DL at h;simp only[ZC,A108,V37,aB];obtain⟨c,b,h⟩:=ae h;cases h;exact ZL (be b) @V37.eq_1
def NO(b:aK)(a:af)(v:Int×List aj):St:=⟨[(2,.pt 2 0 0),(3,.pt 3 0 0),(11,.lst .o 5 (b.N.map (ah .o))),(12,.i (b.N.length:Int)),(13,.i v.1)],[(2,.var (.agg [.lst .u 1 [],.lst .u 4 [],.lst .u 5 []])),(3,.var (.agg [.sl 500000192 0 a.N.length,.sl 500000193 0 a.F.length,.sl 500000194 0 v.2.length])),(500000192,.arr 1 (a.N.map AV.z)),(500000193,.arr 4 (a.F.map (ai .u))),(500000194,.arr 5 (v.2.map (ah .u)))]⟩
theorem w_ca(c:aK)(d:af)(a:Int×List aj)(o:(Int×List aj)⊕(List aj))(h:EB c a=some o):AWP (OkS Tryz.prog) Gv (qL [2,3,11,12,13] [2,3,500000192,500000193,500000194] (NO c d) (qX 0 [2,3] [2,3,500000192,500000193,500000194] (wv d)) o) (NO c d a):=by
 have e:=ZA @NO.eq_1 @wv.eq_1;unfold EB at h;simp only[ZC,NO,Gv];obtain⟨g,h⟩|⟨g,h⟩:=au h
 ·obtain⟨j,v,h⟩:=ae h;obtain⟨m,w,h⟩:=ae h;have f:=ZA g (aO v);refine ZF f ?_;refine ZUG f (w_ea _ w) ?_;obtain⟨k,b,h⟩:=bj h;have x:Row.arr 5 [(.agg [.i j.Id,.i m.N,.lst .u 1 (m.F.map AV.i),.i j.N.N,.i j.N.F]:AV)]=Row.arr 5 (k.map (ah .u)):=by rw[<-b];rfl
  have p:k.length=1:=by rw[<-b];rfl
  obtain⟨a1,y,h⟩:=ae h;have q:=be y;obtain⟨s,l,h⟩:=bj h;have z:a.2.map (ah .u)++k.map (ah .u)=s.map (ah .u):=by rw[<-l,List.map_append]
  have t:a.2.length+1=s.length:=by simp[<-b,<-l]<;>omega
  rw[t] at q;cases h;exact ZL (ZA f (ZA x (ZA p (ZA q (ZA z t))))) (ZA e (ZA b.symm (ZA l.symm p)))
 ·cases h;exact ZL g e
theorem WQ(a:aK){r:aK}(h:zi a=some r):Ok Tryz.prog 98 [.agg [.lst .o 1 (a.F.N.map AV.z),.lst .o 4 (a.F.F.map (ai .o)),.lst .o 5 (a.N.map (ah .o))]] (.agg [.lst .u 1 (r.F.N.map AV.z),.lst .u 4 (r.F.F.map (ai .u)),.lst .u 5 (r.N.map (ah .u))]):=by
 refine ax aZ m98 rfl ?_;unfold zi at h;simp only[ZC,A98,V26,aB];obtain⟨b,c,h⟩:=ae h;refine ZF trivial ?_;refine ZUG trivial (w_hy _ c) ?_;obtain⟨g,d,h⟩:=ae h;try refine ZF trivial ?_
 refine aJ (bn (aF (w_ca a b) d ?_)) ?_
 ·exact ZK (ZA @NO.eq_1 @wv.eq_1)
 ·simp only[ZC,wv,TC];cases h;exact ZL trivial @V26.eq_1
theorem w_hz(a:List Int){r:List Int}(h:PA a=some r):Ok Tryz.prog 142 [.lst .o 1 (a.map AV.i)] (.lst .u 1 (r.map AV.i)):=by
 refine ax aZ m142 rfl ?_;unfold PA at h;simp only[ZC,A142,V91,aB];obtain⟨c,b,h⟩:=ae h;cases h;exact ZL (be b) @V91.eq_1
theorem w_eb(a:aq){r:aq}(h:Fm a=some r):Ok Tryz.prog 77 [.agg [.lst .o 1 (a.F.F.N.map AV.z),.lst .o 4 (a.F.F.F.map (ai .o)),.lst .o 5 (a.F.N.map (ah .o)),.lst .o 5 (a.N.map (ah .o)),.lst .o 1 (a.L.map AV.i)]] (.agg [.lst .u 1 (r.F.F.N.map AV.z),.lst .u 4 (r.F.F.F.map (ai .u)),.lst .u 5 (r.F.N.map (ah .u)),.lst .u 5 (r.N.map (ah .u)),.lst .u 1 (r.L.map AV.i)]):=by
 refine ax aZ m77 rfl ?_;unfold Fm at h;simp only[ZC,A77,lZ,aB];obtain⟨g,b,h⟩:=ae h;refine ZF trivial ?_;refine ZUG trivial (WQ _ b) ?_;obtain⟨j,c,h⟩:=ae h;refine ZF trivial ?_;refine ZUG trivial (WQ _ c) ?_;obtain⟨k,d,h⟩:=ae h;refine ZF trivial ?_;refine ZUG trivial (w_hz _ d) ?_;cases h;exact ZL trivial @lZ.eq_1
theorem w_ia(a:aj)(p1Z0:Int){r:Bool}(h:Qm a p1Z0=some r):Ok Tryz.prog 186 [.agg [.i a.Id,.i a.F.N,.lst .o 1 (a.F.F.map AV.i),.i a.N.N,.i a.N.F],.bp .o (.i p1Z0) 0] (.b r):=by
 refine ax aZ m186 rfl ?_;unfold Qm at h;simp only[ZC,A186,lJ,aB];cases h;exact ZL trivial @lJ.eq_1
theorem w_gt(a:aK)(b:Int){r:Int}(h:NF a b=some r):Ok Tryz.prog 137 [.agg [.lst .o 1 (a.F.N.map AV.z),.lst .o 4 (a.F.F.map (ai .o)),.lst .o 5 (a.N.map (ah .o))],.i b] (.i r):=by
 refine ax aZ m137 rfl ?_;unfold NF at h;simp only[ZC,A137,V85,aB];obtain⟨d,c,h⟩:=ae h;refine ZF trivial ?_;refine ZSG trivial (UK _ _ c 186 [.bp .o (.i b) 0] ⟨fun ρ k=>by simp only[VS1,VS2,VS3,VS4,VS5,VS6,VT1,VT2,bx,bz,decide_true,decide_false,List.nodup_nil,List.nodup_cons,cR,cP,cS,ne_eq,not_false_eq_true,Int.reduceEq,Int.reduceNe,true_and,false_and,Nat.reduceSub,Nat.reduceMul,↓reduceIte,reduceCtorEq,Nat.reduceEqDiff,Nat.reduceAdd,Nat.reduceLeDiff,Int.reduceLE],by simp[aM,AV.ments]⟩ (fun _ _ h=>w_ia _ _ h)) ?_;cases h;exact ZL trivial @V85.eq_1
def Na(a:aq)(v:Int×List Int):St:=⟨[(1,.pt 1 0 0),(3,.sl 3 0 v.2.length),(8,.lst .o 5 (a.N.map (ah .o))),(9,.i (a.N.length:Int)),(10,.i v.1)],[(1,.var (.agg [.lst .o 1 (a.F.F.N.map AV.z),.lst .o 4 (a.F.F.F.map (ai .o)),.lst .o 5 (a.F.N.map (ah .o)),.lst .o 5 (a.N.map (ah .o)),.lst .o 1 (a.L.map AV.i)])),(3,.arr 1 (v.2.map AV.i))]⟩
theorem w_cb(c:aq)(a:Int×List Int)(o:(Int×List Int)⊕(List Int))(h:DW c a=some o):AWP (OkS Tryz.prog) GO (qL [1,3,8,9,10] [1,3] (Na c) (qX 0 [3] [3] (lH)) o) (Na c a):=by
 have e:=ZA @Na.eq_1 @lH.eq_1;unfold DW at h;simp only[ZC,Na,GO];obtain⟨d,h⟩|⟨d,h⟩:=au h
 ·obtain⟨s,t,h⟩:=ae h;obtain⟨y,u,h⟩:=ae h;have f:=ZA d (aO t);refine ZF f ?_;refine ZSG f (w_gt _ _ u) ?_;obtain⟨g,h⟩|⟨g,h⟩:=au h
  ·obtain⟨j,b,h⟩:=bj h;have v:Row.arr 1 [(.i s.Id:AV)]=Row.arr 1 (j.map AV.i):=by rw[<-b];rfl
   have l:j.length=1:=by rw[<-b];rfl
   obtain⟨z,w,h⟩:=ae h;have m:=be w;obtain⟨p,k,h⟩:=bj h;have x:a.2.map AV.i++j.map AV.i=p.map AV.i:=by rw[<-k,List.map_append]
   have q:a.2.length+1=p.length:=by simp[<-b,<-k]<;>omega
   rw[q] at m;cases h;exact ZL (ZA f (ZA g (ZA v (ZA l (ZA m (ZA x q)))))) (ZA e (ZA b.symm (ZA k.symm l)))
  ·cases h;exact ZL (ZA f g) e
 ·cases h;exact ZL d e
theorem w_gu(a:aq){r:List Int}(h:Jn a=some r):Ok Tryz.prog 72 [.agg [.lst .o 1 (a.F.F.N.map AV.z),.lst .o 4 (a.F.F.F.map (ai .o)),.lst .o 5 (a.F.N.map (ah .o)),.lst .o 5 (a.N.map (ah .o)),.lst .o 1 (a.L.map AV.i)]] (.lst .u 1 (r.map AV.i)):=by
 refine ax aZ m72 rfl ?_;unfold Jn at h;simp only[ZC,A72,V91,aB];obtain⟨c,b,h⟩:=ae h;try refine ZF trivial ?_
 refine aJ (bn (aF (w_cb a) b ?_)) ?_
 ·exact ZK (ZA @Na.eq_1 @lH.eq_1)
 ·simp only[ZC,lH,Ua];cases h;exact ZL trivial @V91.eq_1
theorem w_ib(a:aj)(p1Z0:aj){r:Bool}(h:PV a p1Z0=some r):Ok Tryz.prog 168 [.agg [.i a.Id,.i a.F.N,.lst .o 1 (a.F.F.map AV.i),.i a.N.N,.i a.N.F],.bp .o (.agg [.i p1Z0.Id,.i p1Z0.F.N,.lst .o 1 (p1Z0.F.F.map AV.i),.i p1Z0.N.N,.i p1Z0.N.F]) 0] (.b r):=by
 refine ax aZ m168 rfl ?_;unfold PV at h;simp only[ZC,A168,lJ,aB];obtain⟨c,h⟩|⟨c,h⟩:=au h
 ·obtain⟨g,d,h⟩:=ae h;refine ZF c ?_;refine ZSG c (w_dx _ _ d) ?_;cases h;exact ZL c @lJ.eq_1
 ·cases h;exact ZL c @lJ.eq_1
theorem w_gv(c:aq)(a:aj){r:Bool}(h:ND c a=some r):Ok Tryz.prog 107 [.agg [.lst .o 1 (c.F.F.N.map AV.z),.lst .o 4 (c.F.F.F.map (ai .o)),.lst .o 5 (c.F.N.map (ah .o)),.lst .o 5 (c.N.map (ah .o)),.lst .o 1 (c.L.map AV.i)],.agg [.i a.Id,.i a.F.N,.lst .o 1 (a.F.F.map AV.i),.i a.N.N,.i a.N.F]] (.b r):=by
 refine ax aZ m107 rfl ?_;unfold ND at h;simp only[ZC,A107,V85,aB];obtain⟨l,g,h⟩:=ae h;refine ZF trivial ?_;refine ZUG trivial (QW _ _ g) ?_;obtain⟨d,h⟩|⟨d,h⟩:=au h
 ·obtain⟨m,j,h⟩:=ae h;refine ZF d ?_;refine ZSG d (Qp _ _ j 168 [.bp .o (.agg [.i a.Id,.i a.F.N,.lst .o 1 (a.F.F.map AV.i),.i a.N.N,.i a.N.F]) 0] ⟨fun ρ k=>by simp only[VS1,VS2,VS3,VS4,VS5,VS6,VT1,VT2,bx,bz,decide_true,decide_false,List.nodup_nil,List.nodup_cons,cR,cP,cS,ne_eq,not_false_eq_true,Int.reduceEq,Int.reduceNe,true_and,false_and,Nat.reduceSub,Nat.reduceMul,↓reduceIte,reduceCtorEq,Nat.reduceEqDiff,Nat.reduceAdd,Nat.reduceLeDiff,Int.reduceLE],by simp[aM,AV.ments]⟩ (fun _ _ h=>w_ib _ _ h)) ?_;cases h;exact ZL d @V85.eq_1
 ·cases h;exact ZL d @V85.eq_1
def Od(c:aK)(b:aj)(a:aK)(v:Int):St:=⟨[(2,.pt 2 0 0),(3,.pt 3 0 0),(4,.pt 4 0 0),(5,.pt 5 0 0),(6,.i v)],[(2,.var (.agg [.lst .o 1 (c.F.N.map AV.z),.lst .o 4 (c.F.F.map (ai .o)),.lst .o 5 (c.N.map (ah .o))])),(3,.var (.agg [.i b.Id,.i b.F.N,.lst .o 1 (b.F.F.map AV.i),.i b.N.N,.i b.N.F])),(4,.var (.agg [.lst .u 1 [],.lst .u 4 [],.lst .u 5 []])),(5,.var (.agg [.sl 8 0 a.F.N.length,.sl 1008 0 a.F.F.length,.sl 2008 0 a.N.length])),(8,.arr 1 (a.F.N.map AV.z)),(1008,.arr 4 (a.F.F.map (ai .u))),(2008,.arr 5 (a.N.map (ah .u)))]⟩
def BR(b:aj)(a:aK)(v:Int):St:=⟨[(3,.pt 3 0 0),(4,.pt 4 0 0),(5,.pt 5 0 0),(6,.i v)],[(3,.var (.agg [.i b.Id,.i b.F.N,.lst .o 1 (b.F.F.map AV.i),.i b.N.N,.i b.N.F])),(4,.var (.agg [.lst .u 1 [],.lst .u 4 [],.lst .u 5 []])),(5,.var (.agg [.sl 8 0 a.F.N.length,.sl 1008 0 a.F.F.length,.sl 2008 0 a.N.length])),(8,.arr 1 (a.F.N.map AV.z)),(1008,.arr 4 (a.F.F.map (ai .u))),(2008,.arr 5 (a.N.map (ah .u)))]⟩
theorem w_ai(c:aK)(a:aj)(d:aK)(i:Int)(o:Int⊕Int)(h:EQ c a i=some o):AWP (OkS Tryz.prog) Aj (qL [2,3,4,5,6] [2,3,4,5,8,1008,2008] (Od c a d) (qX 0 [3,4,5,6] [3,4,5,8,1008,2008] (BR a d)) o) (Od c a d i):=by
 have e:=ZA @Od.eq_1 @BR.eq_1;unfold EQ at h;simp only[ZC,Od,Aj];obtain⟨b,h⟩|⟨b,h⟩:=au h
 ·obtain⟨k,j,h⟩:=ae h;obtain⟨g,h⟩|⟨g,h⟩:=au h
  ·cases h;exact ZL (ZA b (ZA (aO j) g)) e
  ·cases h;exact ZL (ZA b (ZA (aO j) g)) e
 ·cases h;exact ZL b e
theorem w_ec(d:aK)(a:aj){r:aK}(h:Dn d a=some r):Ok Tryz.prog 174 [.agg [.lst .o 1 (d.F.N.map AV.z),.lst .o 4 (d.F.F.map (ai .o)),.lst .o 5 (d.N.map (ah .o))],.agg [.i a.Id,.i a.F.N,.lst .o 1 (a.F.F.map AV.i),.i a.N.N,.i a.N.F]] (.agg [.lst .u 1 (r.F.N.map AV.z),.lst .u 4 (r.F.F.map (ai .u)),.lst .u 5 (r.N.map (ah .u))]):=by
 refine ax aZ m174 rfl ?_;unfold Dn at h;simp only[ZC,A174,td,aB];obtain⟨g,q,h⟩:=ae h;refine ZF trivial ?_;refine ZUG trivial (WQ _ q) ?_;obtain⟨x,s,h⟩:=ae h;try refine ZF trivial ?_
 refine aJ (bn (aF (w_ai d a g) s ?_)) ?_
 ·exact ZK (ZA @Od.eq_1 @BR.eq_1)
 ·simp only[ZC,BR,Ih];obtain⟨k,t,h⟩:=ae h;refine ZF trivial ?_;refine ZUG trivial (w_ea _ t) ?_;obtain⟨b,c,h⟩:=bj h;have l:Row.arr 5 [(.agg [.i a.Id,.i k.N,.lst .u 1 (k.F.map AV.i),.i a.N.N,.i a.N.F]:AV)]=Row.arr 5 (b.map (ah .u)):=by rw[<-c];rfl
  have j:b.length=1:=by rw[<-c];rfl
  have m:sub (b.map (ah .u)) 0 1=b.map (ah .u):=sx _ (by simp[<-c]);obtain⟨v,p,h⟩:=ae h;have w:v.length=g.N.length+b.length:=vy p;have f:=ZA l (ZA j m);refine ZF f ?_;refine jl (by simp only[VS1,VS2,VS3,VS4,VS5,VS6,VT1,VT2,bx,bz,decide_true,decide_false,List.nodup_nil,List.nodup_cons,cR,cP,cS,ne_eq,not_false_eq_true,Int.reduceEq,Int.reduceNe,true_and,false_and,Nat.reduceSub,Nat.reduceMul,↓reduceIte,reduceCtorEq,Nat.reduceEqDiff,Nat.reduceAdd,Nat.reduceLeDiff,Int.reduceLE,l,j,m];exact(SX UE ((ah .u)) (xs:=g.N) (ys:=b) (by simp[<-c]) (by simp[<-c]) p)) (by simp[VS1,VS2,VS3,VS4,VS5,VS6,VT1,VT2]) (by first|exact mg [0] [3700000] rfl (by decide+kernel) (by simp[VS1,VS2,VS3,VS4,VS5,VS6,VT1,VT2])|simp[VS1,VS2,VS3,VS4,VS5,VS6,VT1,VT2]) ?_;refine ZG ?_;cases h;exact ZL f (ZA @td.eq_1 (ZA c.symm (ZA w j)))
theorem w_ic(a:Int)(p1Z0:af){r:Bool}(h:Ta a p1Z0=some r):Ok Tryz.prog 239 [.i a,.bp .o (.agg [.lst .o 1 (p1Z0.N.map AV.z),.lst .o 4 (p1Z0.F.map (ai .o))]) 0] (.b r):=by
 refine ax aZ m239 rfl ?_;unfold Ta at h;simp only[ZC,A239,lJ,aB];obtain⟨d,c,h⟩:=ae h;refine ZF trivial ?_;refine ZSG trivial (w_i _ _ _ c) ?_;cases h;exact ZL trivial @lJ.eq_1
def Ld(a:List Int)(F_fZ0:Nat)(C_fZ0:List AV)(v:Int):St:=⟨[(0,.lst .o 1 (a.map AV.i)),(1,.fn F_fZ0 C_fZ0),(7,.i (a.length:Int)),(8,.i v)],[]⟩
theorem w_cc(c:List Int)(j:Int->Option Bool)(F_fZ0:Nat)(C_fZ0:List AV)(hC_fZ0:rx C_fZ0)(hf_fZ0:∀(x0:Int)(r:Bool),j x0=some r->Ok Tryz.prog F_fZ0 ((.i x0)::C_fZ0) (.b r))(k:Int)(o:Int⊕(Unit⊕Int))(h:FI c j k=some o):AWP (OkS Tryz.prog) xz (qL [0,1,7,8] [] (Ld c F_fZ0 C_fZ0) (qS (qX 0 [] [] (bP)) (qR V85 (fun r=>.i r))) o) (Ld c F_fZ0 C_fZ0 k):=by
 have e:=ZA @Ld.eq_1 @bP.eq_1;unfold FI at h;simp only[ZC,Ld,xz];obtain⟨a,h⟩|⟨a,h⟩:=au h
 ·obtain⟨m,d,h⟩:=ae h;obtain⟨p,l,h⟩:=ae h;have f:=ZA a (aO d);refine ZF f ?_;have f:=ZA f hC_fZ0.1;refine ZSG f (hf_fZ0 _ _ l) ?_;obtain⟨g,h⟩|⟨g,h⟩:=au h
  ·cases h;exact ZL (ZA a (ZA (aO d) g)) (ZA @V85.eq_1 (ZA hC_fZ0.2 ((dw hC_fZ0))))
  ·cases h;exact ZL (ZA a (ZA (aO d) g)) (ZA e (ZA hC_fZ0.2 ((dw hC_fZ0))))
 ·cases h;exact ZL a (ZA e (ZA hC_fZ0.2 ((dw hC_fZ0))))
theorem w_id(a:List Int)(c:Int->Option Bool){r:Int}(h:Sc a c=some r)(F_fZ0:Nat)(C_fZ0:List AV)(hC_fZ0:rx C_fZ0)(hf_fZ0:∀(x0:Int)(r:Bool),c x0=some r->Ok Tryz.prog F_fZ0 ((.i x0)::C_fZ0) (.b r)):Ok Tryz.prog 145 [.lst .o 1 (a.map AV.i),.fn F_fZ0 C_fZ0] (.i r):=by
 refine ax aZ m145 rfl ?_;unfold Sc at h;simp only[ZC,A145,V85,aB];obtain⟨d,g,h⟩:=ae h;try refine ZF trivial ?_
 refine bl (o:=d) (br cz (aF (w_cc a c F_fZ0 C_fZ0 hC_fZ0 hf_fZ0) g ?_)) (fun k hv=>?_) (fun l hv e τ hne hq=>?_)
 ·exact ZK (ZA @Ld.eq_1 (ZA @bP.eq_1 (ZA hC_fZ0.2 ((dw hC_fZ0)))))
 ·subst hv;simp only[] at h;simp only[ZC,bP,MS];cases h;exact ZL trivial (ZA @V85.eq_1 (ZA hC_fZ0.2 ((dw hC_fZ0))))
 ·subst hv;simp only[] at h;obtain⟨rfl,j⟩:=hq;cases h;exact j
theorem w_gw(a:List Int)(c:Int->Option Bool){r:Bool}(h:Lj a c=some r)(F_fZ0:Nat)(C_fZ0:List AV)(hC_fZ0:rx C_fZ0)(hf_fZ0:∀(x0:Int)(r:Bool),c x0=some r->Ok Tryz.prog F_fZ0 ((.i x0)::C_fZ0) (.b r)):Ok Tryz.prog 238 [.lst .o 1 (a.map AV.i),.fn F_fZ0 C_fZ0] (.b r):=by
 refine ax aZ m238 rfl ?_;unfold Lj at h;simp only[ZC,A238,V85,aB];obtain⟨g,d,h⟩:=ae h;refine ZF trivial ?_;refine ZSG hC_fZ0.1 (w_id _ _ d F_fZ0 C_fZ0 hC_fZ0 hf_fZ0) ?_;cases h;exact ZL trivial (ZA @V85.eq_1 (ZA hC_fZ0.2 ((dw hC_fZ0))))
theorem w_gx(a:af)(d:List Int){r:Bool}(h:MZ a d=some r):Ok Tryz.prog 215 [.agg [.lst .o 1 (a.N.map AV.z),.lst .o 4 (a.F.map (ai .o))],.lst .o 1 (d.map AV.i)] (.b r):=by
 refine ax aZ m215 rfl ?_;unfold MZ at h;simp only[ZC,A215,V85,aB];obtain⟨l,g,h⟩:=ae h;refine ZF trivial ?_;refine ZSG trivial (w_dv _ g) ?_;obtain⟨c,h⟩|⟨c,h⟩:=au h
 ·obtain⟨m,j,h⟩:=ae h;refine ZF c ?_;refine ZSG c (w_gw _ _ j 239 [.bp .o (.agg [.lst .o 1 (a.N.map AV.z),.lst .o 4 (a.F.map (ai .o))]) 0] ⟨fun ρ k=>by simp only[VS1,VS2,VS3,VS4,VS5,VS6,VT1,VT2,bx,bz,decide_true,decide_false,List.nodup_nil,List.nodup_cons,cR,cP,cS,ne_eq,not_false_eq_true,Int.reduceEq,Int.reduceNe,true_and,false_and,Nat.reduceSub,Nat.reduceMul,↓reduceIte,reduceCtorEq,Nat.reduceEqDiff,Nat.reduceAdd,Nat.reduceLeDiff,Int.reduceLE],by simp[aM,AV.ments]⟩ (fun _ _ h=>w_ic _ _ h)) ?_;cases h;exact ZL c @V85.eq_1
 ·cases h;exact ZL c @V85.eq_1
theorem w_ed(b:List Int){r:List Int}(h:EN b=some r):Ok Tryz.prog 241 [.lst .o 1 (b.map AV.i)] (.lst .u 1 (r.map AV.i)):=by
 refine ax aZ m241 rfl ?_;unfold EN at h;simp only[ZC,A241,V91,aB];obtain⟨a,h⟩|⟨a,h⟩:=au h
 ·refine ZF a ?_;refine And.intro ?_ ?_
  ·replace h:=Xo h;cases h;exact ZL a @V91.eq_1
  ·replace h:=XM h;obtain⟨g,c,h⟩:=ae h;cases h;exact ZL (ZA a (be c)) @V91.eq_1
 ·obtain⟨j,d,h⟩:=ae h;cases h;exact ZL (ZA a (be d)) @V91.eq_1
def NP(b:Int)(c:Int)(d:List Int)(a:af)(v:Int×Int×List ar×Int×af):St:=⟨[(0,.i b),(1,.i c),(2,.lst .m 1 (d.map AV.i)),(7,.pt 1000000006 0 0),(25,.lst .o 4 (((a).F).map (ai .o))),(26,.i (((a).F).length:Int)),(27,.i v.1)],[(470000128,.arr 2 (v.2.2.1.map (aA .u))),(1000000001,.var (.i v.2.1)),(1000000002,.var (.sl 470000128 0 v.2.2.1.length)),(1000000004,.var (.i v.2.2.2.1)),(1000000005,.var (.agg [.lst .o 1 (((v.2.2.2.2).N).map AV.z),.lst .o 4 (((v.2.2.2.2).F).map (ai .o))])),(1000000006,.var (.fn 240 [.pt 1000000001 0 0,.pt 1000000002 0 0,.pt 1000000004 0 0,.pt 1000000005 0 0,.pt 1000000006 0 0]))]⟩
def BQ(v:Int×List ar×Int×af):St:=⟨[],[(470000128,.arr 2 (v.2.1.map (aA .u))),(1000000001,.var (.i v.1)),(1000000002,.var (.sl 470000128 0 v.2.1.length)),(1000000004,.var (.i v.2.2.1)),(1000000005,.var (.agg [.lst .o 1 (((v.2.2.2).N).map AV.z),.lst .o 4 (((v.2.2.2).F).map (ai .o))])),(1000000006,.var (.fn 240 [.pt 1000000001 0 0,.pt 1000000002 0 0,.pt 1000000004 0 0,.pt 1000000005 0 0,.pt 1000000006 0 0]))]⟩
theorem w_aj(g:Int)(j:Int)(a:List Int)(p:Int)(k:List ar)(q:Int)(d:af)(b1:Int->Int->List Int->Int->List ar->Int->af->Option (Int×List ar×Int×af))(l1:∀(g:Int)(j:Int)(a:List Int)(p:Int)(k:List ar)(q:Int)(d:af){r:Int×List ar×Int×af},b1 g j a p k q d=some r->OkM Tryz.prog 240 [.i g,.i j,.sl 1000000000 0 a.length,.pt 1000000001 0 0,.pt 1000000002 0 0,.pt 1000000004 0 0,.pt 1000000005 0 0,.pt 1000000006 0 0] [(1000000000,.arr 1 (a.map AV.i)),(1000000001,.var (.i p)),(1000000002,.var (.sl 1000000003 0 k.length)),(1000000003,.arr 2 (k.map (aA .u))),(1000000004,.var (.i q)),(1000000005,.var (.agg [.lst .o 1 (((d).N).map AV.z),.lst .o 4 (((d).F).map (ai .o))])),(1000000006,.var (.fn 240 [.pt 1000000001 0 0,.pt 1000000002 0 0,.pt 1000000004 0 0,.pt 1000000005 0 0,.pt 1000000006 0 0]))] (.tup []) ([(470000128,.arr 2 (r.2.1.map (aA .u))),(1000000001,.var (.i r.1)),(1000000002,.var (.sl 470000128 0 r.2.1.length)),(1000000004,.var (.i r.2.2.1)),(1000000005,.var (.agg [.lst .o 1 (((r.2.2.2).N).map AV.z),.lst .o 4 (((r.2.2.2).F).map (ai .o))])),(1000000006,.var (.fn 240 [.pt 1000000001 0 0,.pt 1000000002 0 0,.pt 1000000004 0 0,.pt 1000000005 0 0,.pt 1000000006 0 0]))]))(c:Int×Int×List ar×Int×af)(o:(Int×Int×List ar×Int×af)⊕(Int×List ar×Int×af))(h:Kw g j a d b1 c=some o):AWP (OkS Tryz.prog) qx (qL [0,1,2,7,25,26,27] [470000128,1000000001,1000000002,1000000004,1000000005,1000000006] (NP g j a d) (qX 0 [] [470000128,1000000001,1000000002,1000000004,1000000005,1000000006] (BQ)) o) (NP g j a d c):=by
 have e:=ZA @NP.eq_1 @BQ.eq_1;unfold Kw at h;simp only[ZC,NP,qx];obtain⟨t,h⟩|⟨t,h⟩:=au h
 ·obtain⟨b2,m1,h⟩:=ae h;obtain⟨p1,q1,h⟩:=ae h;have f:=ZA t (aO m1);refine ZF f ?_;refine ZSG f (WB _ _ q1) ?_;obtain⟨s1,t1,h⟩:=ae h;try refine ZF f ?_
  refine aJ (sh:=(fun v=>⟨[(0,.i g),(1,.i j),(2,.lst .m 1 (a.map AV.i)),(7,.pt 1000000006 0 0),(11,.i c.1),(13,.i p1),(25,.lst .o 4 (((d).F).map (ai .o))),(26,.i (((d).F).length:Int)),(27,.i c.1),(43,.b v)],[(470000128,.arr 2 (c.2.2.1.map (aA .u))),(1000000001,.var (.i c.2.1)),(1000000002,.var (.sl 470000128 0 c.2.2.1.length)),(1000000004,.var (.i c.2.2.2.1)),(1000000005,.var (.agg [.lst .o 1 (((c.2.2.2.2).N).map AV.z),.lst .o 4 (((c.2.2.2.2).F).map (ai .o))])),(1000000006,.var (.fn 240 [.pt 1000000001 0 0,.pt 1000000002 0 0,.pt 1000000004 0 0,.pt 1000000005 0 0,.pt 1000000006 0 0]))]⟩)) (s:=s1) ?_ ?_
  ·replace h:=t1;obtain⟨w,h⟩|⟨w,h⟩:=au h
   ·obtain⟨c2,u1,h⟩:=ae h;cases h;exact ZL (ZA f (ZA w (be u1))) trivial
   ·cases h;exact ZL (ZA f w) trivial
  ·simp only[ZC,xl];obtain⟨x,h⟩|⟨x,h⟩:=au h
   ·obtain⟨d2,v1,h⟩:=ae h;have c1:(0:Int)<=(a.length:Int):=Int.natCast_nonneg _;obtain⟨y,l,h⟩:=bj h;have w1:Row.arr 1 [(.i c.1:AV)]=Row.arr 1 (y.map AV.i):=by rw[<-l];rfl
    have d1:y.length=1:=by rw[<-l];rfl
    obtain⟨g2,y1,h⟩:=ae h;have g1:=be y1;obtain⟨i1,a1,h⟩:=bj h;have z1:a.map AV.i++y.map AV.i=i1.map AV.i:=by rw[<-a1,List.map_append]
    have j1:a.length+1=i1.length:=by simp[<-l,<-a1]<;>omega
    rw[j1] at g1;have k1:(0:Nat)<1:=by decide
    obtain⟨i2,a2,h⟩:=ae h;have f:=ZA f (ZA x (ZA (be v1) (ZA c1 (ZA w1 (ZA d1 (ZA g1 (ZA z1 (ZA j1 k1))))))));refine ZF f ?_;refine ZWG f (l1 _ _ _ _ _ _ _ a2) [470000128,1000000001,1000000002,1000000004,1000000005,1000000006] [476000128] ?_;cases h;exact ZL f (ZA e (ZA l.symm (ZA a1.symm (ZA c1 (ZA d1 k1)))))
   ·cases h;exact ZL (ZA f x) e
 ·cases h;exact ZL t e
theorem XP(m:Int->Int->List Int->Int->List ar->Int->af->Option (Int×List ar×Int×af))(t:∀(g:Int)(j:Int)(b:List Int)(k:Int)(a:List ar)(d:Int)(c:af){r:Int×List ar×Int×af},m g j b k a d c=some r->OkM Tryz.prog 240 [.i g,.i j,.sl 1000000000 0 b.length,.pt 1000000001 0 0,.pt 1000000002 0 0,.pt 1000000004 0 0,.pt 1000000005 0 0,.pt 1000000006 0 0] [(1000000000,.arr 1 (b.map AV.i)),(1000000001,.var (.i k)),(1000000002,.var (.sl 1000000003 0 a.length)),(1000000003,.arr 2 (a.map (aA .u))),(1000000004,.var (.i d)),(1000000005,.var (.agg [.lst .o 1 (((c).N).map AV.z),.lst .o 4 (((c).F).map (ai .o))])),(1000000006,.var (.fn 240 [.pt 1000000001 0 0,.pt 1000000002 0 0,.pt 1000000004 0 0,.pt 1000000005 0 0,.pt 1000000006 0 0]))] (.tup []) ([(470000128,.arr 2 (r.2.1.map (aA .u))),(1000000001,.var (.i r.1)),(1000000002,.var (.sl 470000128 0 r.2.1.length)),(1000000004,.var (.i r.2.2.1)),(1000000005,.var (.agg [.lst .o 1 (((r.2.2.2).N).map AV.z),.lst .o 4 (((r.2.2.2).F).map (ai .o))])),(1000000006,.var (.fn 240 [.pt 1000000001 0 0,.pt 1000000002 0 0,.pt 1000000004 0 0,.pt 1000000005 0 0,.pt 1000000006 0 0]))]))(g:Int)(j:Int)(b:List Int)(k:Int)(a:List ar)(d:Int)(c:af){r:Int×List ar×Int×af}(h:Ns m g j b k a d c=some r):OkM Tryz.prog 240 [.i g,.i j,.sl 1000000000 0 b.length,.pt 1000000001 0 0,.pt 1000000002 0 0,.pt 1000000004 0 0,.pt 1000000005 0 0,.pt 1000000006 0 0] [(1000000000,.arr 1 (b.map AV.i)),(1000000001,.var (.i k)),(1000000002,.var (.sl 1000000003 0 a.length)),(1000000003,.arr 2 (a.map (aA .u))),(1000000004,.var (.i d)),(1000000005,.var (.agg [.lst .o 1 (((c).N).map AV.z),.lst .o 4 (((c).F).map (ai .o))])),(1000000006,.var (.fn 240 [.pt 1000000001 0 0,.pt 1000000002 0 0,.pt 1000000004 0 0,.pt 1000000005 0 0,.pt 1000000006 0 0]))] (.tup []) ([(470000128,.arr 2 (r.2.1.map (aA .u))),(1000000001,.var (.i r.1)),(1000000002,.var (.sl 470000128 0 r.2.1.length)),(1000000004,.var (.i r.2.2.1)),(1000000005,.var (.agg [.lst .o 1 (((r.2.2.2).N).map AV.z),.lst .o 4 (((r.2.2.2).F).map (ai .o))])),(1000000006,.var (.fn 240 [.pt 1000000001 0 0,.pt 1000000002 0 0,.pt 1000000004 0 0,.pt 1000000005 0 0,.pt 1000000006 0 0]))]):=by
 refine bJ (lr:=[470000128,1000000001,1000000002,1000000004,1000000005,1000000006]) aZ UV rfl rfl ?_;unfold Ns at h;simp only[ZC,OK,co];obtain⟨l,h⟩|⟨l,h⟩:=au h
 ·obtain⟨c1,d1,h⟩:=ae h;refine ZF l ?_;refine ZUG l (w_ed _ d1) ?_;obtain⟨q,p,h⟩:=bj h;have g1:Row.arr 2 [(.agg [.i d,.lst .u 1 (c1.map AV.i)]:AV)]=Row.arr 2 (q.map (aA .u)):=by rw[<-p];rfl
  have v:q.length=1:=by rw[<-p];rfl
  obtain⟨k1,i1,h⟩:=ae h;have w:=be i1;obtain⟨x,s,h⟩:=bj h;have j1:a.map (aA .u)++q.map (aA .u)=x.map (aA .u):=by rw[<-s,List.map_append]
  have y:a.length+1=x.length:=by simp[<-p,<-s]<;>omega
  rw[y] at w;cases h;exact ZL (ZA l (ZA g1 (ZA v (ZA w (ZA j1 y))))) (ZA @co.eq_1 (ZA p.symm (ZA s.symm v)))
 ·obtain⟨l1,a1,h⟩:=ae h;try refine ZF l ?_
  first|refine eE (bn (aF (w_aj g j b k a d c m t) a1 ?_)) (fun τ b1=>?_)|refine fV (aF (w_aj g j b k a d c m t) a1 ?_) (fun τ b1=>?_)
  ·exact ZK (ZA @NP.eq_1 @BQ.eq_1)
  ·cases h;refine kG b1 (by decide) ?_ rfl;exact ZK (ZA @co.eq_1 @BQ.eq_1)
theorem w_cy:∀(n:Nat)(d:Int)(g:Int)(a:List Int)(j:Int)(b:List ar)(k:Int)(c:af){r:Int×List ar×Int×af}(_:FR n d g a j b k c=some r),OkM Tryz.prog 240 [.i d,.i g,.sl 1000000000 0 a.length,.pt 1000000001 0 0,.pt 1000000002 0 0,.pt 1000000004 0 0,.pt 1000000005 0 0,.pt 1000000006 0 0] [(1000000000,.arr 1 (a.map AV.i)),(1000000001,.var (.i j)),(1000000002,.var (.sl 1000000003 0 b.length)),(1000000003,.arr 2 (b.map (aA .u))),(1000000004,.var (.i k)),(1000000005,.var (.agg [.lst .o 1 (((c).N).map AV.z),.lst .o 4 (((c).F).map (ai .o))])),(1000000006,.var (.fn 240 [.pt 1000000001 0 0,.pt 1000000002 0 0,.pt 1000000004 0 0,.pt 1000000005 0 0,.pt 1000000006 0 0]))] ((fun(r:Int×List ar×Int×af)=>.tup []) r) ((fun(r:Int×List ar×Int×af)=>[(470000128,.arr 2 (r.2.1.map (aA .u))),(1000000001,.var (.i r.1)),(1000000002,.var (.sl 470000128 0 r.2.1.length)),(1000000004,.var (.i r.2.2.1)),(1000000005,.var (.agg [.lst .o 1 (((r.2.2.2).N).map AV.z),.lst .o 4 (((r.2.2.2).F).map (ai .o))])),(1000000006,.var (.fn 240 [.pt 1000000001 0 0,.pt 1000000002 0 0,.pt 1000000004 0 0,.pt 1000000005 0 0,.pt 1000000006 0 0]))]) r)
 |0,d,g,a,j,b,k,c,_,h=>by cases h
 |n+1,d,g,a,j,b,k,c,_,h=>XP (FR n) (w_cy n) d g a j b k c h
def KG(b:Int)(c:Int)(d:List Int)(a:af)(v:Int×Int×List ar×Int×af):St:=⟨[(0,.i b),(1,.i c),(2,.lst .u 1 (d.map AV.i)),(7,.pt 1000000005 0 0),(25,.lst .o 4 (((a).F).map (ai .o))),(26,.i (((a).F).length:Int)),(27,.i v.1)],[(470000064,.arr 2 (v.2.2.1.map (aA .u))),(1000000000,.var (.i v.2.1)),(1000000001,.var (.sl 470000064 0 v.2.2.1.length)),(1000000003,.var (.i v.2.2.2.1)),(1000000004,.var (.agg [.lst .o 1 (((v.2.2.2.2).N).map AV.z),.lst .o 4 (((v.2.2.2.2).F).map (ai .o))])),(1000000005,.var (.fn 240 [.pt 1000000000 0 0,.pt 1000000001 0 0,.pt 1000000003 0 0,.pt 1000000004 0 0,.pt 1000000005 0 0]))]⟩
def Az(v:Int×List ar×Int×af):St:=⟨[],[(470000064,.arr 2 (v.2.1.map (aA .u))),(1000000000,.var (.i v.1)),(1000000001,.var (.sl 470000064 0 v.2.1.length)),(1000000003,.var (.i v.2.2.1)),(1000000004,.var (.agg [.lst .o 1 (((v.2.2.2).N).map AV.z),.lst .o 4 (((v.2.2.2).F).map (ai .o))])),(1000000005,.var (.fn 240 [.pt 1000000000 0 0,.pt 1000000001 0 0,.pt 1000000003 0 0,.pt 1000000004 0 0,.pt 1000000005 0 0]))]⟩
theorem w_au(g:Int)(j:Int)(c:List Int)(d:af)(a:Int×Int×List ar×Int×af)(o:(Int×Int×List ar×Int×af)⊕(Int×List ar×Int×af))(h:UF g j c d a=some o):AWP (OkS Tryz.prog) pR (qL [0,1,2,7,25,26,27] [470000064,1000000000,1000000001,1000000003,1000000004,1000000005] (KG g j c d) (qX 0 [] [470000064,1000000000,1000000001,1000000003,1000000004,1000000005] (Az)) o) (KG g j c d a):=by
 have e:=ZA @KG.eq_1 @Az.eq_1;unfold UF at h;simp only[ZC,KG,pR];obtain⟨l,h⟩|⟨l,h⟩:=au h
 ·obtain⟨u1,d1,h⟩:=ae h;obtain⟨g1,i1,h⟩:=ae h;have f:=ZA l (aO d1);refine ZF f ?_;refine ZSG f (WB _ _ i1) ?_;obtain⟨j1,k1,h⟩:=ae h;try refine ZF f ?_
  refine aJ (sh:=(fun v=>⟨[(0,.i g),(1,.i j),(2,.lst .u 1 (c.map AV.i)),(7,.pt 1000000005 0 0),(11,.i a.1),(13,.i g1),(25,.lst .o 4 (((d).F).map (ai .o))),(26,.i (((d).F).length:Int)),(27,.i a.1),(43,.b v)],[(470000064,.arr 2 (a.2.2.1.map (aA .u))),(1000000000,.var (.i a.2.1)),(1000000001,.var (.sl 470000064 0 a.2.2.1.length)),(1000000003,.var (.i a.2.2.2.1)),(1000000004,.var (.agg [.lst .o 1 (((a.2.2.2.2).N).map AV.z),.lst .o 4 (((a.2.2.2.2).F).map (ai .o))])),(1000000005,.var (.fn 240 [.pt 1000000000 0 0,.pt 1000000001 0 0,.pt 1000000003 0 0,.pt 1000000004 0 0,.pt 1000000005 0 0]))]⟩)) (s:=j1) ?_ ?_
  ·replace h:=k1;obtain⟨m,h⟩|⟨m,h⟩:=au h
   ·obtain⟨v1,l1,h⟩:=ae h;cases h;exact ZL (ZA f (ZA m (be l1))) trivial
   ·cases h;exact ZL (ZA f m) trivial
  ·simp only[ZC,wY];obtain⟨p,h⟩|⟨p,h⟩:=au h
   ·obtain⟨w1,m1,h⟩:=ae h;have w:(0:Int)<=(c.length:Int):=Int.natCast_nonneg _;obtain⟨q,k,h⟩:=bj h;have p1:Row.arr 1 [(.i a.1:AV)]=Row.arr 1 (q.map AV.i):=by rw[<-k];rfl
    have x:q.length=1:=by rw[<-k];rfl
    obtain⟨y1,q1,h⟩:=ae h;have y:=be q1;obtain⟨a1,t,h⟩:=bj h;have s1:c.map AV.i++q.map AV.i=a1.map AV.i:=by rw[<-t,List.map_append]
    have b1:c.length+1=a1.length:=by simp[<-k,<-t]<;>omega
    rw[b1] at y;have c1:(0:Nat)<1:=by decide
    obtain⟨z1,t1,h⟩:=ae h;have f:=ZA f (ZA p (ZA (be m1) (ZA w (ZA p1 (ZA x (ZA y (ZA s1 (ZA b1 c1))))))));refine ZF f ?_;refine ZWG f (w_cy N0 _ _ _ _ _ _ _ t1) [470000128,1000000001,1000000002,1000000004,1000000005,1000000006] [476000128] ?_;cases h;exact ZL f (ZA e (ZA k.symm (ZA t.symm (ZA w (ZA x c1)))))
   ·cases h;exact ZL (ZA f p) e
 ·cases h;exact ZL l e
theorem w_ie(d:Int)(g:Int)(j:List Int)(q:Int)(a:List ar)(l:Int)(b:af){r:Int×List ar×Int×af}(h:SV d g j q a l b=some r):OkM Tryz.prog 240 [.i d,.i g,.lst .u 1 (j.map AV.i),.pt 1000000000 0 0,.pt 1000000001 0 0,.pt 1000000003 0 0,.pt 1000000004 0 0,.pt 1000000005 0 0] [(1000000000,.var (.i q)),(1000000001,.var (.sl 1000000002 0 a.length)),(1000000002,.arr 2 (a.map (aA .u))),(1000000003,.var (.i l)),(1000000004,.var (.agg [.lst .o 1 (((b).N).map AV.z),.lst .o 4 (((b).F).map (ai .o))])),(1000000005,.var (.fn 240 [.pt 1000000000 0 0,.pt 1000000001 0 0,.pt 1000000003 0 0,.pt 1000000004 0 0,.pt 1000000005 0 0]))] (.tup []) ([(470000064,.arr 2 (r.2.1.map (aA .u))),(1000000000,.var (.i r.1)),(1000000001,.var (.sl 470000064 0 r.2.1.length)),(1000000003,.var (.i r.2.2.1)),(1000000004,.var (.agg [.lst .o 1 (((r.2.2.2).N).map AV.z),.lst .o 4 (((r.2.2.2).F).map (ai .o))])),(1000000005,.var (.fn 240 [.pt 1000000000 0 0,.pt 1000000001 0 0,.pt 1000000003 0 0,.pt 1000000004 0 0,.pt 1000000005 0 0]))]):=by
 refine bJ (lr:=[470000064,1000000000,1000000001,1000000003,1000000004,1000000005]) aZ VE rfl rfl ?_;unfold SV at h;simp only[ZC,Ja,co];obtain⟨c,h⟩|⟨c,h⟩:=au h
 ·obtain⟨a1,b1,h⟩:=ae h;refine ZF c ?_;refine ZUG c (w_ed _ b1) ?_;obtain⟨m,k,h⟩:=bj h;have c1:Row.arr 2 [(.agg [.i l,.lst .u 1 (a1.map AV.i)]:AV)]=Row.arr 2 (m.map (aA .u)):=by rw[<-k];rfl
  have s:m.length=1:=by rw[<-k];rfl
  obtain⟨i1,d1,h⟩:=ae h;have t:=be d1;obtain⟨v,p,h⟩:=bj h;have g1:a.map (aA .u)++m.map (aA .u)=v.map (aA .u):=by rw[<-p,List.map_append]
  have w:a.length+1=v.length:=by simp[<-k,<-p]<;>omega
  rw[w] at t;cases h;exact ZL (ZA c (ZA c1 (ZA s (ZA t (ZA g1 w))))) (ZA @co.eq_1 (ZA k.symm (ZA p.symm s)))
 ·obtain⟨j1,x,h⟩:=ae h;try refine ZF c ?_
  first|refine eE (bn (aF (w_au d g j b) x ?_)) (fun τ y=>?_)|refine fV (aF (w_au d g j b) x ?_) (fun τ y=>?_)
  ·exact ZK (ZA @KG.eq_1 @Az.eq_1)
  ·cases h;refine kG y (by decide) ?_ rfl;exact ZK (ZA @co.eq_1 @Az.eq_1)
def GK(a:af)(b:ar)(v:Int×Int):St:=⟨[(2,.pt 2 0 0),(5,.i v.1),(9,.lst .o 1 (b.F.map AV.i)),(10,.i (b.F.length:Int)),(11,.i v.2)],[(2,.var (.agg [.lst .o 1 (a.N.map AV.z),.lst .o 4 (a.F.map (ai .o))]))]⟩
theorem w_cz(a:af)(b:ar)(d:Int×Int)(o:(Int×Int)⊕Int)(h:Wu a b d=some o):AWP (OkS Tryz.prog) zp (qL [2,5,9,10,11] [2] (GK a b) (qX 0 [5] [] (lI)) o) (GK a b d):=by
 have e:=ZA @GK.eq_1 @lI.eq_1;unfold Wu at h;simp only[ZC,GK,zp];obtain⟨c,h⟩|⟨c,h⟩:=au h
 ·obtain⟨j,g,h⟩:=ae h;obtain⟨k,i,h⟩:=ae h;cases h;exact ZL (ZA c (ZA (aO g) (aO i))) e
 ·cases h;exact ZL c e
theorem w_eo(a:af)(b:ar){r:Int}(h:HH a b=some r):Ok Tryz.prog 252 [.agg [.lst .o 1 (a.N.map AV.z),.lst .o 4 (a.F.map (ai .o))],.agg [.i b.N,.lst .o 1 (b.F.map AV.i)]] (.i r):=by
 refine ax aZ m252 rfl ?_;unfold HH at h;simp only[ZC,A252,V85,aB];obtain⟨d,c,h⟩:=ae h;try refine ZF trivial ?_
 refine aJ (bn (aF (w_cz a b) c ?_)) ?_
 ·exact ZK (ZA @GK.eq_1 @lI.eq_1)
 ·simp only[ZC,lI,HR];cases h;exact ZL trivial @V85.eq_1
def S_t(s1Z0:List Int)(s2Z0:List Int)(v:Int):St:=⟨[(0,.lst .o 1 (s1Z0.map AV.i)),(1,.lst .o 1 (s2Z0.map AV.i)),(9,.lst .o 1 (s1Z0.map AV.i)),(10,.i (s1Z0.length:Int)),(11,.i v)],[]⟩
def Jw(s1Z0:List Int)(s2Z0:List Int)(v:Unit):St:=⟨[(0,.lst .o 1 (s1Z0.map AV.i)),(1,.lst .o 1 (s2Z0.map AV.i))],[]⟩
theorem w_t(s1Z0:List Int)(s2Z0:List Int)(d:Int)(o:Int⊕(Unit⊕Int))(h:M_t s1Z0 s2Z0 d=some o):AWP (OkS Tryz.prog) yi (qL [0,1,9,10,11] [] (S_t s1Z0 s2Z0) (qS (qX 0 [0,1] [] (Jw s1Z0 s2Z0)) (qR V85 (fun r=>.i r))) o) (S_t s1Z0 s2Z0 d):=by
 unfold M_t at h;simp only[ZC,S_t,yi];obtain⟨a,h⟩|⟨a,h⟩:=au h
 ·obtain⟨l,g,h⟩:=ae h;obtain⟨b,h⟩|⟨b,h⟩:=au h
  ·cases h;exact ZL (ZA a (ZA (aO g) b)) @V85.eq_1
  ·obtain⟨m,j,h⟩:=ae h;obtain⟨p,k,h⟩:=ae h;have f:=ZA a (ZA (aO g) (ZA b (aO j)));refine ZF f ?_;refine ZSG f (w_s _ _ k) ?_;obtain⟨c,h⟩|⟨c,h⟩:=au h
   ·cases h;exact ZL (ZA f c) @V85.eq_1
   ·cases h;exact ZL (ZA f c) (ZA @S_t.eq_1 @Jw.eq_1)
 ·cases h;exact ZL a (ZA @S_t.eq_1 @Jw.eq_1)
theorem w_gy(s1Z0:List Int)(s2Z0:List Int){r:Int}(h:KK s1Z0 s2Z0=some r):Ok Tryz.prog 253 [.lst .o 1 (s1Z0.map AV.i),.lst .o 1 (s2Z0.map AV.i)] (.i r):=by
 refine ax aZ m253 rfl ?_;unfold KK at h;simp only[ZC,A253,V85,aB];obtain⟨b,c,h⟩:=ae h;try refine ZF trivial ?_
 refine bl (o:=b) (br cz (aF (w_t s1Z0 s2Z0) c ?_)) (fun g hv=>?_) (fun j hv e τ hne hq=>?_)
 ·exact ZK (ZA @S_t.eq_1 @Jw.eq_1)
 ·subst hv;simp only[] at h;simp only[ZC,Jw,Ko];obtain⟨a,h⟩|⟨a,h⟩:=au h
  ·cases h;exact ZL a @V85.eq_1
  ·cases h;exact ZL a @V85.eq_1
 ·subst hv;simp only[] at h;obtain⟨rfl,d⟩:=hq;cases h;exact d
theorem w_gz(c:af)(d:ar)(g:ar){r:Int}(h:JA c d g=some r):Ok Tryz.prog 244 [.agg [.lst .o 1 (c.N.map AV.z),.lst .o 4 (c.F.map (ai .o))],.agg [.i d.N,.lst .o 1 (d.F.map AV.i)],.agg [.i g.N,.lst .o 1 (g.F.map AV.i)]] (.i r):=by
 refine ax aZ m244 rfl ?_;unfold JA at h;simp only[ZC,A244,eJ,aB];obtain⟨b1,k,h⟩:=ae h;refine ZF trivial ?_;refine ZSG trivial (w_eo _ _ k) ?_;obtain⟨c1,l,h⟩:=ae h;refine ZF trivial ?_;refine ZSG trivial (w_eo _ _ l) ?_;obtain⟨m,p,h⟩:=ae h;refine ZF trivial ?_;refine ZSG trivial (w_s _ _ p) ?_;obtain⟨q,s,h⟩:=ae h;refine ZF trivial ?_;refine ZSG trivial (w_s _ _ s) ?_;obtain⟨t,u,h⟩:=ae h;refine ZF trivial ?_;refine ZSG trivial (w_gy _ _ u) ?_;obtain⟨v,w,h⟩:=ae h;refine ZF trivial ?_;refine ZSG trivial (w_s _ _ w) ?_;obtain⟨a,b,h⟩:=bj h;have x:Row.arr 1 [(.i m:AV),(.i q:AV),(.i t:AV),(.i v:AV)]=Row.arr 1 (a.map AV.i):=by rw[<-b];rfl
 have j:a.length=4:=by rw[<-b];rfl
 have y:sub (a.map AV.i) 0 4=a.map AV.i:=sx _ (by simp[<-b]);obtain⟨d1,a1,h⟩:=ae h;have f:=ZA x (ZA j y);refine ZF f ?_;refine ZSG f (w_dj _ a1) ?_;cases h;exact ZL f (ZA @eJ.eq_1 (ZA b.symm j))
theorem w_ee(a:ar)(b:ar)(p2Z0:af){r:Int}(h:zC a b p2Z0=some r):Ok Tryz.prog 243 [.agg [.i a.N,.lst .o 1 (a.F.map AV.i)],.agg [.i b.N,.lst .o 1 (b.F.map AV.i)],.bp .o (.agg [.lst .o 1 (p2Z0.N.map AV.z),.lst .o 4 (p2Z0.F.map (ai .o))]) 0] (.i r):=by
 refine ax aZ m243 rfl ?_;unfold zC at h;simp only[ZC,A243,WA,aB];obtain⟨d,c,h⟩:=ae h;refine ZF trivial ?_;refine ZSG trivial (w_gz _ _ _ c) ?_;cases h;exact ZL trivial @WA.eq_1
theorem w_ha(b:af)(g:Int)(j:Int){r:List ar}(h:HX b g j=some r):Ok Tryz.prog 216 [.agg [.lst .o 1 (b.N.map AV.z),.lst .o 4 (b.F.map (ai .o))],.i g,.i j] (.lst .u 2 (r.map (aA .u))):=by
 refine ax aZ m216 rfl ?_;unfold HX at h;simp only[ZC,A216,eJ,aB];obtain⟨a,m,h⟩:=ae h;try refine ZF trivial ?_
 refine aJ (sh:=(fun v=>⟨[(3,.pt 3 0 0),(7,.pt 7 0 0)],[(3,.var (.agg [.lst .o 1 (((v.1).N).map AV.z),.lst .o 4 (((v.1).F).map (ai .o))])),(7,.var (.sl 500000448 0 v.2.length)),(500000448,.arr 2 (v.2.map (aA .u)))]⟩)) (s:=a) ?_ ?_
 ·replace h:=m;obtain⟨c,h⟩|⟨c,h⟩:=au h
  ·obtain⟨w,p,h⟩:=ae h;obtain⟨x,q,h⟩:=ae h;have f:=ZA c (be p);refine ZF f ?_;refine ZWG f (w_ie _ _ _ _ _ _ _ q) [470000064,1000000000,1000000001,1000000003,1000000004,1000000005] [471900064] ?_;cases h;exact ZL f trivial
  ·cases h;exact ZL c trivial
 ·simp only[ZC,KC];obtain⟨d,k,h⟩:=ae h;have l:d.length=a.2.length:=lg k;refine ZF trivial ?_;refine jl (by simp only[VS1,VS2,VS3,VS4,VS5,VS6,VT1,VT2,bx,bz,decide_true,decide_false,List.nodup_nil,List.nodup_cons,cR,cP,cS,ne_eq,not_false_eq_true,Int.reduceEq,Int.reduceNe,true_and,false_and,Nat.reduceSub,Nat.reduceMul,↓reduceIte,reduceCtorEq,Nat.reduceEqDiff,Nat.reduceAdd,Nat.reduceLeDiff,Int.reduceLE];exact(JJ PQ (aA .u) (qA .u) (xs:=a.2) (cmp:=(fun x0 x1=>zC x0 x1 a.1)) (C:=[.bp .o (.agg [.lst .o 1 (a.1.N.map AV.z),.lst .o 4 (a.1.F.map (ai .o))]) 0]) (by simp[List.length_nil]) (by simp only[VS1,VS2,VS3,VS4,VS5,VS6,VT1,VT2,bx,bz,decide_true,decide_false,List.nodup_nil,List.nodup_cons,cR,cP,cS,ne_eq,not_false_eq_true,Int.reduceEq,Int.reduceNe,true_and,false_and,Nat.reduceSub,Nat.reduceMul,↓reduceIte,reduceCtorEq,Nat.reduceEqDiff,Nat.reduceAdd,Nat.reduceLeDiff,Int.reduceLE,List.map_cons,List.map_nil]) rfl (by simp[Wf,VS1,VS2,VS3,VS4,VS5,VS6,VT1,VT2]) (by simp[VS1,VS2,VS3,VS4,VS5,VS6,VT1,VT2]) ((UJ m243)) (fun _ _ _ hq=>by simp only[gp,VS1,VS2,VS3,VS4,VS5,VS6,VT1,VT2,bx,bz,decide_true,decide_false,List.nodup_nil,List.nodup_cons,cR,cP,cS,ne_eq,not_false_eq_true,Int.reduceEq,Int.reduceNe,true_and,false_and,Nat.reduceSub,Nat.reduceMul,↓reduceIte,reduceCtorEq,Nat.reduceEqDiff,Nat.reduceAdd,Nat.reduceLeDiff,Int.reduceLE];exact w_ee _ _ _ hq) k)) (by simp[VS1,VS2,VS3,VS4,VS5,VS6,VT1,VT2]) (by first|exact ry [1000000000,1000000001] rfl (by decide+kernel)|simp[VS1,VS2,VS3,VS4,VS5,VS6,VT1,VT2]) ?_;refine ZG ?_;have t:sub (d.map (aA .u)) 0 a.2.length=d.map (aA .u):=sx _ (by simp[l]);cases h;exact ZL t (ZA @eJ.eq_1 l)
theorem w_dl(c:af)(g:Int)(j:Int){r:List ar×Bool}(h:vh c g j=some r):Ok Tryz.prog 175 [.agg [.lst .o 1 (c.N.map AV.z),.lst .o 4 (c.F.map (ai .o))],.i g,.i j] (.tup [.lst .u 2 (r.1.map (aA .u)),.b r.2]):=by
 refine ax aZ m175 rfl ?_;unfold vh at h;simp only[ZC,A175,fQ,aB];obtain⟨q,t,h⟩:=ae h;try refine ZF trivial ?_
 refine aJ (sh:=(fun v=>⟨[(1,.i g),(2,.i j),(3,.pt 3 0 0),(19,.b v)],[(3,.var (.agg [.lst .o 1 (c.N.map AV.z),.lst .o 4 (c.F.map (ai .o))]))]⟩)) (s:=q) ?_ ?_
 ·replace h:=t;obtain⟨k,d,h⟩:=bj h;have w:Row.arr 1 [(.i g:AV),(.i j:AV)]=Row.arr 1 (k.map AV.i):=by rw[<-d];rfl
  have l:k.length=2:=by rw[<-d];rfl
  have x:sub (k.map AV.i) 0 2=k.map AV.i:=sx _ (by simp[<-d]);obtain⟨b1,y,h⟩:=ae h;have f:=ZA w (ZA l x);refine ZF f ?_;refine ZSG f (w_gx _ _ y) ?_;obtain⟨m,h⟩|⟨m,h⟩:=au h
  ·cases h;exact ZL (ZA f m) (ZA d.symm l)
  ·cases h;exact ZL (ZA f m) (ZA d.symm l)
 ·simp only[ZC,OI];obtain⟨a,h⟩|⟨a,h⟩:=au h
  ·cases h;exact ZL a @fQ.eq_1
  ·obtain⟨c1,a1,h⟩:=ae h;refine ZF a ?_;refine ZUG a (w_ha _ _ _ a1) ?_;obtain⟨p,h⟩|⟨p,h⟩:=au h
   ·cases h;exact ZL (ZA a p) @fQ.eq_1
   ·cases h;exact ZL (ZA a p) @fQ.eq_1
def S_u(b:aK)(c:Int×List Int)(a:aj)(v:Int×List Int):St:=⟨[(3,.sl 3 0 v.2.length),(5,.pt 5 0 0),(14,.lst .o 5 (b.N.map (ah .o))),(15,.i (b.N.length:Int)),(16,.i c.1),(22,.lst .o 1 (a.F.F.map AV.i)),(23,.i (a.F.F.length:Int)),(24,.i v.1)],[(3,.arr 1 (v.2.map AV.i)),(5,.var (.agg [.i a.Id,.i a.F.N,.lst .o 1 (a.F.F.map AV.i),.i a.N.N,.i a.N.F]))]⟩
def Sb(a:aK)(b:Int×List Int)(v:List Int):St:=⟨[(3,.sl 3 0 v.length),(14,.lst .o 5 (a.N.map (ah .o))),(15,.i (a.N.length:Int)),(16,.i b.1)],[(3,.arr 1 (v.map AV.i))]⟩
theorem w_u(a:aK)(b:Int×List Int)(c:aj)(d:Int×List Int)(o:(Int×List Int)⊕(List Int))(h:M_u c d=some o):AWP (OkS Tryz.prog) zK (qL [3,5,14,15,16,22,23,24] [3,5] (S_u a b c) (qX 2 [3,14,15,16] [3] (Sb a b)) o) (S_u a b c d):=by
 have e:=ZA @S_u.eq_1 @Sb.eq_1;unfold M_u at h;simp only[ZC,S_u,zK];obtain⟨g,h⟩|⟨g,h⟩:=au h
 ·obtain⟨k,l,h⟩:=ae h;obtain⟨w,m,h⟩:=ae h;obtain⟨p,q,h⟩:=ae h;obtain⟨s,t,h⟩:=ae h;have f:=ZA g (ZA (aO l) (ZA (be m) q));refine ZF f ?_;refine ZSG f (Sd _ t) ?_;obtain⟨u,j,h⟩:=bj h;have v:(d.2.map AV.i).set (Int.toNat k) (.i (bits .or .i64 p s))=u.map AV.i:=by rw[<-j,List.map_set]
  cases h;exact ZL (ZA f v) (ZA e j.symm)
 ·cases h;exact ZL g e
def Nx(a:aK)(v:Int×List Int):St:=⟨[(3,.sl 3 0 v.2.length),(14,.lst .o 5 (a.N.map (ah .o))),(15,.i (a.N.length:Int)),(16,.i v.1)],[(3,.arr 1 (v.2.map AV.i))]⟩
theorem w_bg(a:aK)(b:Int×List Int)(o:(Int×List Int)⊕(List Int))(h:Ae a b=some o):AWP (OkS Tryz.prog) zU (qL [3,14,15,16] [3] (Nx a) (qX 0 [3] [3] (lH)) o) (Nx a b):=by
 have e:=ZA @Nx.eq_1 @lH.eq_1;unfold Ae at h;simp only[ZC,Nx,zU];obtain⟨c,h⟩|⟨c,h⟩:=au h
 ·obtain⟨k,l,h⟩:=ae h;try refine ZF c ?_
  refine aJ (sh:=(fun v=>⟨[(3,.sl 3 0 v.length),(14,.lst .o 5 (a.N.map (ah .o))),(15,.i (a.N.length:Int)),(16,.i b.1)],[(3,.arr 1 (v.map AV.i))]⟩)) (s:=k) ?_ ?_
  ·replace h:=l;obtain⟨d,m,h⟩:=ae h;obtain⟨p,g,h⟩:=ae h;try refine ZF (ZA c (aO m)) ?_
   first|refine eE (bn (aF (w_u a b d) g ?_)) (fun τ j=>?_)|refine fV (aF (w_u a b d) g ?_) (fun τ j=>?_)
   ·exact ZK (ZA @S_u.eq_1 @Sb.eq_1)
   ·cases h;try refine ZF trivial ?_
    refine⟨rfl,Shp.sub j (by decide) (by decide) ?_⟩;exact ZK @Sb.eq_1
  ·simp only[ZC,Jv];cases h;exact ZL c e
 ·cases h;exact ZL c e
theorem w_hb(a:aK){r:List Int}(h:MI a=some r):Ok Tryz.prog 219 [.agg [.lst .o 1 (a.F.N.map AV.z),.lst .o 4 (a.F.F.map (ai .o)),.lst .o 5 (a.N.map (ah .o))]] (.lst .u 1 (r.map AV.i)):=by
 refine ax aZ m219 rfl ?_;unfold MI at h;simp only[ZC,A219,V91,aB];obtain⟨k,c,h⟩:=ae h;obtain⟨d,b,h⟩:=bj h;have g:List.replicate (Int.toNat (a.F.F.length:Int)) (.i 0:AV)=d.map AV.i:=by rw[<-b,List.map_replicate]
 obtain⟨l,j,h⟩:=ae h;have f:=ZA (be c) g;try refine ZF f ?_
 refine aJ (bn (aF (w_bg a) j ?_)) ?_
 ·exact ZK (ZA @Nx.eq_1 (ZA @lH.eq_1 (ZA b.symm @Zr)))
 ·simp only[ZC,lH,Nz];cases h;exact ZL f @V91.eq_1
def S_z(a:ar)(b:List Int)(v:Int×Int):St:=⟨[(5,.sl 5 0 b.length),(6,.i v.1),(12,.lst .o 1 (a.F.map AV.i)),(13,.i (a.F.length:Int)),(14,.i v.2)],[(5,.arr 1 (b.map AV.i))]⟩
def Qy(v:Int):St:=⟨[(6,.i v)],[]⟩
theorem w_z(a:ar)(b:List Int)(d:Int×Int)(o:(Int×Int)⊕Int)(h:M_z a b d=some o):AWP (OkS Tryz.prog) zR (qL [5,6,12,13,14] [5] (S_z a b) (qX 0 [6] [] (Qy)) o) (S_z a b d):=by
 have e:=ZA @S_z.eq_1 @Qy.eq_1;unfold M_z at h;simp only[ZC,S_z,zR];obtain⟨c,h⟩|⟨c,h⟩:=au h
 ·obtain⟨k,g,h⟩:=ae h;obtain⟨l,i,h⟩:=ae h;obtain⟨m,j,h⟩:=ae h;cases h;exact ZL (ZA c (ZA (aO g) (ZA (be i) j))) e
 ·cases h;exact ZL c e
theorem w_hc(a:aK)(b:ar){r:Int}(h:JQ a b=some r):Ok Tryz.prog 177 [.agg [.lst .o 1 (a.F.N.map AV.z),.lst .o 4 (a.F.F.map (ai .o)),.lst .o 5 (a.N.map (ah .o))],.agg [.i b.N,.lst .o 1 (b.F.map AV.i)]] (.i r):=by
 refine ax aZ m177 rfl ?_;unfold JQ at h;simp only[ZC,A177,V85,aB];obtain⟨c,d,h⟩:=ae h;refine ZF trivial ?_;refine ZUG trivial (w_hb _ d) ?_;obtain⟨j,g,h⟩:=ae h;try refine ZF trivial ?_
 refine aJ (bn (aF (w_z b c) g ?_)) ?_
 ·exact ZK (ZA @S_z.eq_1 @Qy.eq_1)
 ·simp only[ZC,Qy,Ha];cases h;exact ZL trivial @V85.eq_1
theorem w_if(a:Int){r:Bool}(h:Qb a=some r):Ok Tryz.prog 245 [.i a] (.b r):=by
 refine ax aZ m245 rfl ?_;unfold Qb at h;simp only[ZC,A245,V91,aB];obtain⟨d,c,h⟩:=ae h;refine ZF trivial ?_;refine ZSG trivial (w_i _ _ _ c) ?_;cases h;exact ZL trivial @V91.eq_1
theorem w_ig(c:Int)(d:Int){r:Bool}(h:Qf c d=some r):Ok Tryz.prog 217 [.i c,.i d] (.b r):=by
 refine ax aZ m217 rfl ?_;unfold Qf at h;simp only[ZC,A217,V85,aB];obtain⟨k,g,h⟩:=ae h;refine ZF trivial ?_;refine ZSG trivial (w_if _ g) ?_;obtain⟨a,h⟩|⟨a,h⟩:=au h
 ·obtain⟨l,j,h⟩:=ae h;refine ZF a ?_;refine ZSG a (w_i _ _ _ j) ?_;cases h;exact ZL a @V85.eq_1
 ·cases h;exact ZL a @V85.eq_1
theorem w_hd(d:Int)(g:Int)(b:Int×List Int)(o:(Int×List Int)⊕(List Int))(h:Lt d g b=some o):AWP (OkS Tryz.prog) zX (qL [0,1,5,6] [5] (S_g d g) (qX 0 [5] [5] (oD)) o) (S_g d g b):=by
 have e:=ZA @S_g.eq_1 @oD.eq_1;unfold Lt at h;simp only[ZC,S_g,zX];obtain⟨a,h⟩|⟨a,h⟩:=au h
 ·obtain⟨x,t,h⟩:=ae h;refine ZF a ?_;refine ZSG a (Sd _ t) ?_;obtain⟨j,h⟩|⟨j,h⟩:=au h
  ·obtain⟨k,c,h⟩:=bj h;have u:Row.arr 1 [(.i b.1:AV)]=Row.arr 1 (k.map AV.i):=by rw[<-c];rfl
   have m:k.length=1:=by rw[<-c];rfl
   obtain⟨y,v,h⟩:=ae h;have p:=be v;obtain⟨q,l,h⟩:=bj h;have w:b.2.map AV.i++k.map AV.i=q.map AV.i:=by rw[<-l,List.map_append]
   have s:b.2.length+1=q.length:=by simp[<-c,<-l]<;>omega
   rw[s] at p;cases h;exact ZL (ZA a (ZA j (ZA u (ZA m (ZA p (ZA w s)))))) (ZA e (ZA c.symm (ZA l.symm m)))
  ·cases h;exact ZL (ZA a j) e
 ·cases h;exact ZL a e
theorem w_he(a:Int)(b:Int){r:List Int}(h:Mt a b=some r):Ok Tryz.prog 218 [.i a,.i b] (.lst .u 1 (r.map AV.i)):=by
 refine ax aZ m218 rfl ?_;unfold Mt at h;simp only[ZC,A218,V85,aB];obtain⟨d,c,h⟩:=ae h;try refine ZF trivial ?_
 refine aJ (bn (aF (w_hd a b) c ?_)) ?_
 ·exact ZK (ZA @S_g.eq_1 @oD.eq_1)
 ·simp only[ZC,oD,LR];cases h;exact ZL trivial @V85.eq_1
theorem w_hf(d:Int)(g:Int){r:bd×Bool}(h:Mf d g=some r):Ok Tryz.prog 176 [.i d,.i g] (.tup [.agg [.i r.1.N,.i r.1.F],.b r.2]):=by
 refine ax aZ m176 rfl ?_;unfold Mf at h;simp only[ZC,A176,OO,aB];obtain⟨p,j,h⟩:=ae h;refine ZF trivial ?_;refine ZSG trivial (w_ig _ _ j) ?_;obtain⟨a,h⟩|⟨a,h⟩:=au h
 ·cases h;exact ZL a @OO.eq_1
 ·obtain⟨q,k,h⟩:=ae h;refine ZF a ?_;refine ZUG a (w_he _ _ k) ?_;obtain⟨c,h⟩|⟨c,h⟩:=au h
  ·cases h;exact ZL (ZA a c) @OO.eq_1
  ·obtain⟨s,l,h⟩:=ae h;obtain⟨t,m,h⟩:=ae h;cases h;exact ZL (ZA a (ZA c (ZA (be l) m))) @OO.eq_1
def IA(b:aq)(g:Int)(a:aq)(c:aj)(d:List ar×Bool)(v:Int):St:=⟨[(1,.i g),(2,.pt 2 0 0),(4,.pt 4 0 0),(6,.pt 6 0 0),(7,.pt 7 0 0),(51,.sl 9 0 d.1.length),(52,.i (d.1.length:Int)),(53,.i v)],[(2,.var (.agg [.lst .o 1 (b.F.F.N.map AV.z),.lst .o 4 (b.F.F.F.map (ai .o)),.lst .o 5 (b.F.N.map (ah .o)),.lst .o 5 (b.N.map (ah .o)),.lst .o 1 (b.L.map AV.i)])),(4,.var (.agg [.lst .u 1 [],.lst .u 4 [],.lst .u 5 [],.lst .u 5 [],.lst .u 1 []])),(6,.var (.agg [.sl 16 0 a.F.F.N.length,.sl 1016 0 a.F.F.F.length,.sl 2016 0 a.F.N.length,.sl 3016 0 a.N.length,.sl 4016 0 a.L.length])),(7,.var (.agg [.i c.Id,.i c.F.N,.lst .o 1 (c.F.F.map AV.i),.i c.N.N,.i c.N.F])),(9,.arr 2 (d.1.map (aA .u))),(16,.arr 1 (a.F.F.N.map AV.z)),(1016,.arr 4 (a.F.F.F.map (ai .u))),(2016,.arr 5 (a.F.N.map (ah .u))),(3016,.arr 5 (a.N.map (ah .u))),(4016,.arr 1 (a.L.map AV.i))]⟩
def BF(a:aq)(v:Unit):St:=⟨[(4,.pt 4 0 0),(6,.pt 6 0 0)],[(4,.var (.agg [.lst .u 1 [],.lst .u 4 [],.lst .u 5 [],.lst .u 5 [],.lst .u 1 []])),(6,.var (.agg [.sl 16 0 a.F.F.N.length,.sl 1016 0 a.F.F.F.length,.sl 2016 0 a.F.N.length,.sl 3016 0 a.N.length,.sl 4016 0 a.L.length])),(16,.arr 1 (a.F.F.N.map AV.z)),(1016,.arr 4 (a.F.F.F.map (ai .u))),(2016,.arr 5 (a.F.N.map (ah .u))),(3016,.arr 5 (a.N.map (ah .u))),(4016,.arr 1 (a.L.map AV.i))]⟩
theorem w_ak(c:aq)(d:Int)(a:aq)(g:aj)(j:List ar×Bool)(p:Int)(o:Int⊕(Unit⊕(aq×Bool)))(h:EK c d a g j p=some o):AWP (OkS Tryz.prog) xK (qL [1,2,4,6,7,51,52,53] [2,4,6,7,9,16,1016,2016,3016,4016] (IA c d a g j) (qS (qX 0 [4,6] [4,6,16,1016,2016,3016,4016] (BF a)) (qR kH (fun r=>.tup [.agg [.lst .u 1 (r.1.F.F.N.map AV.z),.lst .u 4 (r.1.F.F.F.map (ai .u)),.lst .u 5 (r.1.F.N.map (ah .u)),.lst .u 5 (r.1.N.map (ah .u)),.lst .u 1 (r.1.L.map AV.i)],.b r.2]))) o) (IA c d a g j p):=by
 have e:=ZA @IA.eq_1 @BF.eq_1;unfold EK at h;simp only[ZC,IA,xK];obtain⟨k,h⟩|⟨k,h⟩:=au h
 ·obtain⟨y,q,h⟩:=ae h;obtain⟨a1,s,h⟩:=ae h;obtain⟨b1,t,h⟩:=ae h;have f:=ZA k (ZA (be q) s);refine ZF f ?_;refine ZUG f (QW _ _ t) ?_;obtain⟨l,h⟩|⟨l,h⟩:=au h
  ·cases h;exact ZL (ZA f l) e
  ·obtain⟨c1,v,h⟩:=ae h;have f:=ZA f l;refine ZF f ?_;refine ZSG f (w_hc _ _ v) ?_;obtain⟨d1,w,h⟩:=ae h;refine ZF f ?_;refine ZUG f (w_hf _ _ w) ?_;obtain⟨m,h⟩|⟨m,h⟩:=au h
   ·obtain⟨g1,x,h⟩:=ae h;have f:=ZA f m;refine ZF f ?_;refine ZUG f (w_ec _ _ x) ?_;cases h;exact ZL f @kH.eq_1
   ·cases h;exact ZL (ZA f m) e
 ·cases h;exact ZL k e
theorem w_ep(a:aq)(d:Int){r:aq×Bool}(h:ER a d=some r):Ok Tryz.prog 118 [.agg [.lst .o 1 (a.F.F.N.map AV.z),.lst .o 4 (a.F.F.F.map (ai .o)),.lst .o 5 (a.F.N.map (ah .o)),.lst .o 5 (a.N.map (ah .o)),.lst .o 1 (a.L.map AV.i)],.i d] (.tup [.agg [.lst .u 1 (r.1.F.F.N.map AV.z),.lst .u 4 (r.1.F.F.F.map (ai .u)),.lst .u 5 (r.1.F.N.map (ah .u)),.lst .u 5 (r.1.N.map (ah .u)),.lst .u 1 (r.1.L.map AV.i)],.b r.2]):=by
 refine ax aZ m118 rfl ?_;unfold ER at h;simp only[ZC,A118,kH,aB];obtain⟨k,l,h⟩:=ae h;refine ZF trivial ?_;refine ZUG trivial (w_eb _ l) ?_;obtain⟨b1,m,h⟩:=ae h;refine ZF trivial ?_;refine ZSG trivial (w_dz _ _ m) ?_;obtain⟨p,c,h⟩:=ae h;obtain⟨c1,q,h⟩:=ae h;refine ZF (aO c) ?_;refine ZSG (aO c) (w_gv _ _ q) ?_;obtain⟨g,h⟩|⟨g,h⟩:=au h
 ·obtain⟨d1,s,h⟩:=ae h;have f:=ZA (aO c) g;refine ZF f ?_;refine ZUG f (w_ec _ _ s) ?_;cases h;exact ZL f @kH.eq_1
 ·obtain⟨g1,t,h⟩:=ae h;have f:=ZA (aO c) g;refine ZF f ?_;refine ZSG f (UM _ _ t) ?_;obtain⟨v,w,h⟩:=ae h;refine ZF f ?_;refine ZUG f (w_dl _ _ _ w) ?_;obtain⟨j,h⟩|⟨j,h⟩:=au h
  ·cases h;exact ZL (ZA f j) @kH.eq_1
  ·obtain⟨x,y,h⟩:=ae h;have f:=ZA f j;try refine ZF f ?_
   refine bl (o:=x) (br cz (aF (w_ak a d k p v) y ?_)) (fun i1 hv=>?_) (fun j1 hv e τ hne hq=>?_)
   ·exact ZK (ZA @IA.eq_1 @BF.eq_1)
   ·subst hv;simp only[] at h;simp only[ZC,BF,Gy];cases h;exact ZL f @kH.eq_1
   ·subst hv;simp only[] at h;obtain⟨rfl,a1⟩:=hq;cases h;exact a1
def Lu(a:List Int)(v:Int×List Int×List ByteArray×List ay×List aj×List aj×List Int):St:=⟨[(2,.pt 2 0 0),(5,.pt 5 0 0),(6,.sl 6 0 v.2.1.length),(19,.sl 19 0 a.length),(20,.i (a.length:Int)),(21,.i v.1)],[(2,.var (.agg [.lst .u 1 [],.lst .u 4 [],.lst .u 5 [],.lst .u 5 [],.lst .u 1 []])),(5,.var (.agg [.sl 500000320 0 v.2.2.1.length,.sl 500000321 0 v.2.2.2.1.length,.sl 500000322 0 v.2.2.2.2.1.length,.sl 500000323 0 v.2.2.2.2.2.1.length,.sl 500000324 0 v.2.2.2.2.2.2.length])),(6,.arr 1 (v.2.1.map AV.i)),(19,.arr 1 (a.map AV.i)),(500000320,.arr 1 (v.2.2.1.map AV.z)),(500000321,.arr 4 (v.2.2.2.1.map (ai .u))),(500000322,.arr 5 (v.2.2.2.2.1.map (ah .u))),(500000323,.arr 5 (v.2.2.2.2.2.1.map (ah .u))),(500000324,.arr 1 (v.2.2.2.2.2.2.map AV.i))]⟩
def BS(v:List Int×List ByteArray×List ay×List aj×List aj×List Int):St:=⟨[(2,.pt 2 0 0),(5,.pt 5 0 0),(6,.sl 6 0 v.1.length)],[(2,.var (.agg [.lst .u 1 [],.lst .u 4 [],.lst .u 5 [],.lst .u 5 [],.lst .u 1 []])),(5,.var (.agg [.sl 500000320 0 v.2.1.length,.sl 500000321 0 v.2.2.1.length,.sl 500000322 0 v.2.2.2.1.length,.sl 500000323 0 v.2.2.2.2.1.length,.sl 500000324 0 v.2.2.2.2.2.length])),(6,.arr 1 (v.1.map AV.i)),(500000320,.arr 1 (v.2.1.map AV.z)),(500000321,.arr 4 (v.2.2.1.map (ai .u))),(500000322,.arr 5 (v.2.2.2.1.map (ah .u))),(500000323,.arr 5 (v.2.2.2.2.1.map (ah .u))),(500000324,.arr 1 (v.2.2.2.2.2.map AV.i))]⟩
theorem w_aa(c:List Int)(a:Int×List Int×List ByteArray×List ay×List aj×List aj×List Int)(o:(Int×List Int×List ByteArray×List ay×List aj×List aj×List Int)⊕(List Int×List ByteArray×List ay×List aj×List aj×List Int))(h:xu c a=some o):AWP (OkS Tryz.prog) Gi (qL [2,5,6,19,20,21] [2,5,6,19,500000320,500000321,500000322,500000323,500000324] (Lu c) (qX 0 [2,5,6] [2,5,6,500000320,500000321,500000322,500000323,500000324] (BS)) o) (Lu c a):=by
 have e:=ZA @Lu.eq_1 @BS.eq_1;unfold xu at h;simp only[ZC,Lu,Gi];obtain⟨d,h⟩|⟨d,h⟩:=au h
 ·obtain⟨z,s,h⟩:=ae h;obtain⟨t,u,h⟩:=ae h;obtain⟨a1,v,h⟩:=ae h;have f:=ZA d (ZA (be s) u);refine ZF f ?_;refine ZUG f (w_ep _ _ v) ?_;obtain⟨g,h⟩|⟨g,h⟩:=au h
  ·obtain⟨j,b,h⟩:=bj h;have w:Row.arr 1 [(.i t:AV)]=Row.arr 1 (j.map AV.i):=by rw[<-b];rfl
   have l:j.length=1:=by rw[<-b];rfl
   obtain⟨b1,x,h⟩:=ae h;have m:=be x;obtain⟨p,k,h⟩:=bj h;have y:a.2.1.map AV.i++j.map AV.i=p.map AV.i:=by rw[<-k,List.map_append]
   have q:a.2.1.length+1=p.length:=by simp[<-b,<-k]<;>omega
   rw[q] at m;cases h;exact ZL (ZA f (ZA g (ZA w (ZA l (ZA m (ZA y q)))))) (ZA e (ZA b.symm (ZA k.symm l)))
  ·cases h;exact ZL (ZA f g) e
 ·cases h;exact ZL d e
theorem w_ef(c:aq){r:aq×List Int×Bool}(h:EM c=some r):Ok Tryz.prog 52 [.agg [.lst .o 1 (c.F.F.N.map AV.z),.lst .o 4 (c.F.F.F.map (ai .o)),.lst .o 5 (c.F.N.map (ah .o)),.lst .o 5 (c.N.map (ah .o)),.lst .o 1 (c.L.map AV.i)]] (.tup [.agg [.lst .u 1 (r.1.F.F.N.map AV.z),.lst .u 4 (r.1.F.F.F.map (ai .u)),.lst .u 5 (r.1.F.N.map (ah .u)),.lst .u 5 (r.1.N.map (ah .u)),.lst .u 1 (r.1.L.map AV.i)],.lst .u 1 (r.2.1.map AV.i),.b r.2.2]):=by
 refine ax aZ m52 rfl ?_;unfold EM at h;simp only[ZC,A52,oa,aB];obtain⟨m,d,h⟩:=ae h;refine ZF trivial ?_;refine ZSG trivial (w_gs _ d) ?_;obtain⟨a,h⟩|⟨a,h⟩:=au h
 ·cases h;exact ZL a @oa.eq_1
 ·obtain⟨p,g,h⟩:=ae h;refine ZF a ?_;refine ZUG a (w_eb _ g) ?_;obtain⟨j,k,h⟩:=ae h;refine ZF a ?_;refine ZUG a (w_gu _ k) ?_;obtain⟨q,l,h⟩:=ae h;try refine ZF a ?_
  refine aJ (bn (aF (w_aa j) l ?_)) ?_
  ·exact ZK (ZA @Lu.eq_1 @BS.eq_1)
  ·simp only[ZC,BS,TW];cases h;exact ZL a @oa.eq_1
def HG(a:List ByteArray)(b:List ByteArray)(v:Int):St:=⟨[(0,.lst .o 1 (a.map AV.z)),(1,.lst .o 1 (b.map AV.z)),(5,.i v)],[]⟩
theorem w_cd(c:List ByteArray)(d:List ByteArray)(i:Int)(o:Int⊕(Unit⊕Bool))(h:FM c d i=some o):AWP (OkS Tryz.prog) HE (qL [0,1,5] [] (HG c d) (qS (qX 0 [] [] (bP)) (qR V85 (fun r=>.b r))) o) (HG c d i):=by
 have e:=ZA @HG.eq_1 @bP.eq_1;unfold FM at h;simp only[ZC,HG,HE];obtain⟨a,h⟩|⟨a,h⟩:=au h
 ·obtain⟨l,j,h⟩:=ae h;obtain⟨m,k,h⟩:=ae h;obtain⟨g,h⟩|⟨g,h⟩:=au h
  ·cases h;exact ZL (ZA a (ZA (aO j) (ZA (aO k) g))) @V85.eq_1
  ·cases h;exact ZL (ZA a (ZA (aO j) (ZA (aO k) g))) e
 ·cases h;exact ZL a e
theorem w_hg(c:List ByteArray)(d:List ByteArray){r:Bool}(h:Gm c d=some r):Ok Tryz.prog 99 [.lst .o 1 (c.map AV.z),.lst .o 1 (d.map AV.z)] (.b r):=by
 refine ax aZ m99 rfl ?_;unfold Gm at h;simp only[ZC,A99,V85,aB];obtain⟨a,h⟩|⟨a,h⟩:=au h
 ·cases h;exact ZL a @V85.eq_1
 ·obtain⟨g,i,h⟩:=ae h;try refine ZF a ?_
  refine bl (o:=g) (br cz (aF (w_cd c d) i ?_)) (fun k hv=>?_) (fun l hv e τ hne hq=>?_)
  ·exact ZK (ZA @HG.eq_1 @bP.eq_1)
  ·subst hv;simp only[] at h;simp only[ZC,bP,Ti];cases h;exact ZL a @V85.eq_1
  ·subst hv;simp only[] at h;obtain⟨rfl,j⟩:=hq;cases h;exact j
theorem w_eq(c:ay)(d:ay){r:Bool}(h:Cg c d=some r):Ok Tryz.prog 158 [.agg [.i c.A,.i c.B,.i c.F,.i c.N],.agg [.i d.A,.i d.B,.i d.F,.i d.N]] (.b r):=by
 have e:=@V85.eq_1;refine ax aZ m158 rfl ?_;unfold Cg at h;simp only[ZC,A158,V85,aB];obtain⟨a,h⟩|⟨a,h⟩:=au h
 ·cases h;exact ZL a e
 ·obtain⟨g,h⟩|⟨g,h⟩:=au h
  ·cases h;exact ZL (ZA a g) e
  ·obtain⟨j,h⟩|⟨j,h⟩:=au h
   ·cases h;exact ZL (ZA a (ZA g j)) e
   ·obtain⟨k,h⟩|⟨k,h⟩:=au h
    ·cases h;exact ZL (ZA a (ZA g (ZA j k))) e
    ·cases h;exact ZL (ZA a (ZA g (ZA j k))) e
def NY(a:List ay)(b:List ay)(v:Int):St:=⟨[(0,.lst .o 4 (a.map (ai .o))),(1,.lst .o 4 (b.map (ai .o))),(5,.i v)],[]⟩
theorem w_ce(a:List ay)(c:List ay)(i:Int)(o:Int⊕(Unit⊕Bool))(h:Ev a c i=some o):AWP (OkS Tryz.prog) xU (qL [0,1,5] [] (NY a c) (qS (qX 0 [] [] (bP)) (qR V85 (fun r=>.b r))) o) (NY a c i):=by
 have e:=ZA @NY.eq_1 @bP.eq_1;unfold Ev at h;simp only[ZC,NY,xU];obtain⟨d,h⟩|⟨d,h⟩:=au h
 ·obtain⟨m,j,h⟩:=ae h;obtain⟨p,k,h⟩:=ae h;obtain⟨q,l,h⟩:=ae h;have f:=ZA d (ZA (aO j) (aO k));refine ZF f ?_;refine ZSG f (w_eq _ _ l) ?_;obtain⟨g,h⟩|⟨g,h⟩:=au h
  ·cases h;exact ZL (ZA f g) @V85.eq_1
  ·cases h;exact ZL (ZA f g) e
 ·cases h;exact ZL d e
theorem w_hh(c:List ay)(d:List ay){r:Bool}(h:NB c d=some r):Ok Tryz.prog 100 [.lst .o 4 (c.map (ai .o)),.lst .o 4 (d.map (ai .o))] (.b r):=by
 refine ax aZ m100 rfl ?_;unfold NB at h;simp only[ZC,A100,V85,aB];obtain⟨a,h⟩|⟨a,h⟩:=au h
 ·cases h;exact ZL a @V85.eq_1
 ·obtain⟨g,i,h⟩:=ae h;try refine ZF a ?_
  refine bl (o:=g) (br cz (aF (w_ce c d) i ?_)) (fun k hv=>?_) (fun l hv e τ hne hq=>?_)
  ·exact ZK (ZA @NY.eq_1 @bP.eq_1)
  ·subst hv;simp only[] at h;simp only[ZC,bP,Hd];cases h;exact ZL a @V85.eq_1
  ·subst hv;simp only[] at h;obtain⟨rfl,j⟩:=hq;cases h;exact j
theorem w_hi(c:af)(d:af){r:Bool}(h:KB c d=some r):Ok Tryz.prog 40 [.agg [.lst .o 1 (c.N.map AV.z),.lst .o 4 (c.F.map (ai .o))],.agg [.lst .o 1 (d.N.map AV.z),.lst .o 4 (d.F.map (ai .o))]] (.b r):=by
 refine ax aZ m40 rfl ?_;unfold KB at h;simp only[ZC,A40,V85,aB];obtain⟨k,i,h⟩:=ae h;refine ZF trivial ?_;refine ZSG trivial (w_hg _ _ i) ?_;obtain⟨a,h⟩|⟨a,h⟩:=au h
 ·cases h;exact ZL a @V85.eq_1
 ·obtain⟨l,j,h⟩:=ae h;refine ZF a ?_;refine ZSG a (w_hh _ _ j) ?_;obtain⟨g,h⟩|⟨g,h⟩:=au h
  ·cases h;exact ZL (ZA a g) @V85.eq_1
  ·cases h;exact ZL (ZA a g) @V85.eq_1
def Kj(a:List Int)(b:List Int)(v:Int):St:=⟨[(0,.lst .o 1 (a.map AV.i)),(1,.lst .o 1 (b.map AV.i)),(5,.i v)],[]⟩
theorem w_cf(c:List Int)(d:List Int)(i:Int)(o:Int⊕(Unit⊕Bool))(h:Cn c d i=some o):AWP (OkS Tryz.prog) JE (qL [0,1,5] [] (Kj c d) (qS (qX 0 [] [] (bP)) (qR V85 (fun r=>.b r))) o) (Kj c d i):=by
 have e:=ZA @Kj.eq_1 @bP.eq_1;unfold Cn at h;simp only[ZC,Kj,JE];obtain⟨a,h⟩|⟨a,h⟩:=au h
 ·obtain⟨l,j,h⟩:=ae h;obtain⟨m,k,h⟩:=ae h;obtain⟨g,h⟩|⟨g,h⟩:=au h
  ·cases h;exact ZL (ZA a (ZA (aO j) (ZA (aO k) g))) @V85.eq_1
  ·cases h;exact ZL (ZA a (ZA (aO j) (ZA (aO k) g))) e
 ·cases h;exact ZL a e
theorem Js(c:List Int)(d:List Int){r:Bool}(h:ux c d=some r):Ok Tryz.prog 20 [.lst .o 1 (c.map AV.i),.lst .o 1 (d.map AV.i)] (.b r):=by
 refine ax aZ m20 rfl ?_;unfold ux at h;simp only[ZC,A20,V85,aB];obtain⟨a,h⟩|⟨a,h⟩:=au h
 ·cases h;exact ZL a @V85.eq_1
 ·obtain⟨g,j,h⟩:=ae h;try refine ZF a ?_
  refine bl (o:=g) (br cz (aF (w_cf c d) j ?_)) (fun l hv=>?_) (fun m hv e τ hne hq=>?_)
  ·exact ZK (ZA @Kj.eq_1 @bP.eq_1)
  ·subst hv;simp only[] at h;simp only[ZC,bP,Tp];cases h;exact ZL a @V85.eq_1
  ·subst hv;simp only[] at h;obtain⟨rfl,k⟩:=hq;cases h;exact k
theorem w_hj(c:ar)(d:ar){r:Bool}(h:KD c d=some r):Ok Tryz.prog 159 [.agg [.i c.N,.lst .o 1 (c.F.map AV.i)],.agg [.i d.N,.lst .o 1 (d.F.map AV.i)]] (.b r):=by
 refine ax aZ m159 rfl ?_;unfold KD at h;simp only[ZC,A159,V85,aB];obtain⟨a,h⟩|⟨a,h⟩:=au h
 ·cases h;exact ZL a @V85.eq_1
 ·obtain⟨k,j,h⟩:=ae h;refine ZF a ?_;refine ZSG a (Js _ _ j) ?_;obtain⟨g,h⟩|⟨g,h⟩:=au h
  ·cases h;exact ZL (ZA a g) @V85.eq_1
  ·cases h;exact ZL (ZA a g) @V85.eq_1
theorem w_hk(c:bd)(d:bd){r:Bool}(h:JT c d=some r):Ok Tryz.prog 160 [.agg [.i c.N,.i c.F],.agg [.i d.N,.i d.F]] (.b r):=by
 refine ax aZ m160 rfl ?_;unfold JT at h;simp only[ZC,A160,V85,aB];obtain⟨a,h⟩|⟨a,h⟩:=au h
 ·cases h;exact ZL a @V85.eq_1
 ·obtain⟨g,h⟩|⟨g,h⟩:=au h
  ·cases h;exact ZL (ZA a g) @V85.eq_1
  ·cases h;exact ZL (ZA a g) @V85.eq_1
theorem w_er(a:aj)(c:aj){r:Bool}(h:Fw a c=some r):Ok Tryz.prog 136 [.agg [.i a.Id,.i a.F.N,.lst .o 1 (a.F.F.map AV.i),.i a.N.N,.i a.N.F],.agg [.i c.Id,.i c.F.N,.lst .o 1 (c.F.F.map AV.i),.i c.N.N,.i c.N.F]] (.b r):=by
 have e:=@V85.eq_1;refine ax aZ m136 rfl ?_;unfold Fw at h;simp only[ZC,A136,V85,aB];obtain⟨d,h⟩|⟨d,h⟩:=au h
 ·cases h;exact ZL d e
 ·obtain⟨m,k,h⟩:=ae h;refine ZF d ?_;refine ZSG d (w_hj _ _ k) ?_;obtain⟨g,h⟩|⟨g,h⟩:=au h
  ·cases h;exact ZL (ZA d g) e
  ·obtain⟨p,l,h⟩:=ae h;have f:=ZA d g;refine ZF f ?_;refine ZSG f (w_hk _ _ l) ?_;obtain⟨j,h⟩|⟨j,h⟩:=au h
   ·cases h;exact ZL (ZA f j) e
   ·cases h;exact ZL (ZA f j) e
def Hl(a:List aj)(b:List aj)(v:Int):St:=⟨[(0,.lst .o 5 (a.map (ah .o))),(1,.lst .o 5 (b.map (ah .o))),(5,.i v)],[]⟩
theorem w_cg(a:List aj)(c:List aj)(i:Int)(o:Int⊕(Unit⊕Bool))(h:DI a c i=some o):AWP (OkS Tryz.prog) Ia (qL [0,1,5] [] (Hl a c) (qS (qX 0 [] [] (bP)) (qR V85 (fun r=>.b r))) o) (Hl a c i):=by
 have e:=ZA @Hl.eq_1 @bP.eq_1;unfold DI at h;simp only[ZC,Hl,Ia];obtain⟨d,h⟩|⟨d,h⟩:=au h
 ·obtain⟨m,j,h⟩:=ae h;obtain⟨p,k,h⟩:=ae h;obtain⟨q,l,h⟩:=ae h;have f:=ZA d (ZA (aO j) (aO k));refine ZF f ?_;refine ZSG f (w_er _ _ l) ?_;obtain⟨g,h⟩|⟨g,h⟩:=au h
  ·cases h;exact ZL (ZA f g) @V85.eq_1
  ·cases h;exact ZL (ZA f g) e
 ·cases h;exact ZL d e
theorem w_eg(c:List aj)(d:List aj){r:Bool}(h:Ez c d=some r):Ok Tryz.prog 70 [.lst .o 5 (c.map (ah .o)),.lst .o 5 (d.map (ah .o))] (.b r):=by
 refine ax aZ m70 rfl ?_;unfold Ez at h;simp only[ZC,A70,V85,aB];obtain⟨a,h⟩|⟨a,h⟩:=au h
 ·cases h;exact ZL a @V85.eq_1
 ·obtain⟨g,i,h⟩:=ae h;try refine ZF a ?_
  refine bl (o:=g) (br cz (aF (w_cg c d) i ?_)) (fun k hv=>?_) (fun l hv e τ hne hq=>?_)
  ·exact ZK (ZA @Hl.eq_1 @bP.eq_1)
  ·subst hv;simp only[] at h;simp only[ZC,bP,TI];cases h;exact ZL a @V85.eq_1
  ·subst hv;simp only[] at h;obtain⟨rfl,j⟩:=hq;cases h;exact j
theorem w_hl(c:aK)(d:aK){r:Bool}(h:Hv c d=some r):Ok Tryz.prog 28 [.agg [.lst .o 1 (c.F.N.map AV.z),.lst .o 4 (c.F.F.map (ai .o)),.lst .o 5 (c.N.map (ah .o))],.agg [.lst .o 1 (d.F.N.map AV.z),.lst .o 4 (d.F.F.map (ai .o)),.lst .o 5 (d.N.map (ah .o))]] (.b r):=by
 refine ax aZ m28 rfl ?_;unfold Hv at h;simp only[ZC,A28,V85,aB];obtain⟨k,i,h⟩:=ae h;refine ZF trivial ?_;refine ZSG trivial (w_hi _ _ i) ?_;obtain⟨a,h⟩|⟨a,h⟩:=au h
 ·cases h;exact ZL a @V85.eq_1
 ·obtain⟨l,j,h⟩:=ae h;refine ZF a ?_;refine ZSG a (w_eg _ _ j) ?_;obtain⟨g,h⟩|⟨g,h⟩:=au h
  ·cases h;exact ZL (ZA a g) @V85.eq_1
  ·cases h;exact ZL (ZA a g) @V85.eq_1
theorem Qa(a:aq)(c:aq){r:Bool}(h:wV a c=some r):Ok Tryz.prog 17 [.agg [.lst .o 1 (a.F.F.N.map AV.z),.lst .o 4 (a.F.F.F.map (ai .o)),.lst .o 5 (a.F.N.map (ah .o)),.lst .o 5 (a.N.map (ah .o)),.lst .o 1 (a.L.map AV.i)],.agg [.lst .o 1 (c.F.F.N.map AV.z),.lst .o 4 (c.F.F.F.map (ai .o)),.lst .o 5 (c.F.N.map (ah .o)),.lst .o 5 (c.N.map (ah .o)),.lst .o 1 (c.L.map AV.i)]] (.b r):=by
 refine ax aZ m17 rfl ?_;unfold wV at h;simp only[ZC,A17,V85,aB];obtain⟨p,k,h⟩:=ae h;refine ZF trivial ?_;refine ZSG trivial (w_hl _ _ k) ?_;obtain⟨d,h⟩|⟨d,h⟩:=au h
 ·cases h;exact ZL d @V85.eq_1
 ·obtain⟨q,l,h⟩:=ae h;refine ZF d ?_;refine ZSG d (w_eg _ _ l) ?_;obtain⟨g,h⟩|⟨g,h⟩:=au h
  ·cases h;exact ZL (ZA d g) @V85.eq_1
  ·obtain⟨s,m,h⟩:=ae h;have f:=ZA d g;refine ZF f ?_;refine ZSG f (Js _ _ m) ?_;obtain⟨j,h⟩|⟨j,h⟩:=au h
   ·cases h;exact ZL (ZA f j) @V85.eq_1
   ·cases h;exact ZL (ZA f j) @V85.eq_1
def GH(v:Int×ByteArray):St:=⟨[(0,.i v.1),(3,.z v.2)],[]⟩
def BO(v:ByteArray):St:=⟨[(3,.z v)],[]⟩
theorem w_al(c:Int×ByteArray)(o:(Int×ByteArray)⊕ByteArray)(h:Ea c=some o):AWP (OkS Tryz.prog) yw (qL [0,3] [] (GH) (qX 0 [3] [] (BO)) o) (GH c):=by
 have e:=ZA @GH.eq_1 @BO.eq_1;unfold Ea at h;simp only[ZC,GH,yw];obtain⟨d,h⟩|⟨d,h⟩:=au h
 ·obtain⟨p,i,h⟩:=ae h;obtain⟨a,b,h⟩:=bj h;have j:Row.arr 1 [(.sc (.int .u8 (IntKind.wrap .u8 (IntKind.wrap .i64 (48+(Int.tmod c.1 10))))):AV)]=Row.arr 1 (a.map AV.u8):=by rw[<-b];rfl
  have g:a.length=1:=by rw[<-b];rfl
  have k:sub (a.map AV.u8) 0 1=a.map AV.u8:=sx _ (by simp[<-b]);obtain⟨q,l,h⟩:=ae h;obtain⟨s,m,h⟩:=ae h;cases h;exact ZL (ZA d (ZA (be i) (ZA j (ZA g (ZA k (ZA (be l) (be m))))))) (ZA e (ZA b.symm g))
 ·cases h;exact ZL d e
theorem w_da(b:Int){r:ByteArray}(h:wx b=some r):Ok Tryz.prog 161 [.i b] (.z r):=by
 refine ax aZ m161 rfl ?_;unfold wx at h;simp only[ZC,A161,V91,aB];obtain⟨a,h⟩|⟨a,h⟩:=au h
 ·cases h;exact ZL a @V91.eq_1
 ·obtain⟨g,c,h⟩:=ae h;try refine ZF a ?_
  refine aJ (bn (aF (w_al) c ?_)) ?_
  ·exact ZK (ZA @GH.eq_1 @BO.eq_1)
  ·simp only[ZC,BO,Gx];obtain⟨j,d,h⟩:=ae h;cases h;exact ZL (ZA a (be d)) @V91.eq_1
def LE(v:Int×Int×List ByteArray):St:=⟨[(0,.sl 1000000000 0 v.2.2.length),(1,.i v.1),(5,.i v.2.1)],[(1000000000,.arr 1 (v.2.2.map AV.z))]⟩
def Bl(v:Int×List ByteArray):St:=⟨[(1,.i v.1)],[(1000000000,.arr 1 (v.2.map AV.z))]⟩
theorem w_am(b:Int×Int×List ByteArray)(o:(Int×Int×List ByteArray)⊕(Int×List ByteArray))(h:DQ b=some o):AWP (OkS Tryz.prog) pg (qL [0,1,5] [1000000000] (LE) (qX 0 [1] [1000000000] (Bl)) o) (LE b):=by
 have e:=ZA @LE.eq_1 @Bl.eq_1;unfold DQ at h;simp only[ZC,LE,pg];obtain⟨a,h⟩|⟨a,h⟩:=au h
 ·obtain⟨d,g,h⟩:=ae h;refine ZF a ?_;refine ZSG a (w_da _ g) ?_;obtain⟨m,i,h⟩:=ae h;obtain⟨p,j,h⟩:=ae h;obtain⟨k,c,h⟩:=bj h;have l:(b.2.2.map AV.z).set (Int.toNat b.2.1) (.z d)=k.map AV.z:=by rw[<-c,List.map_set]
  cases h;exact ZL (ZA a (ZA (be i) (ZA j l))) (ZA e c.symm)
 ·cases h;exact ZL a e
theorem w_hm(b:Int)(a:List ByteArray){r:Int×List ByteArray}(h:Io b a=some r):OkM Tryz.prog 102 [.sl 1000000000 0 a.length,.i b] [(1000000000,.arr 1 (a.map AV.z))] (.i r.1) ([(1000000000,.arr 1 (r.2.map AV.z))]):=by
 refine bJ (lr:=[1000000000]) aZ Xh rfl rfl ?_;unfold Io at h;simp only[ZC,MU,V85];obtain⟨d,c,h⟩:=ae h;try refine ZF trivial ?_
 refine aJ (bn (aF (w_am) c ?_)) ?_
 ·exact ZK (ZA @LE.eq_1 @Bl.eq_1)
 ·simp only[ZC,Bl,uS];cases h;exact ZL trivial @V85.eq_1
def MF(v:Int×Int×List ay):St:=⟨[(0,.sl 1000000000 0 v.2.2.length),(1,.i v.1),(5,.i v.2.1)],[(1000000000,.arr 4 (v.2.2.map (ai .u)))]⟩
def BN(v:Int×List ay):St:=⟨[(1,.i v.1)],[(1000000000,.arr 4 (v.2.map (ai .u)))]⟩
theorem w_an(a:Int×Int×List ay)(o:(Int×Int×List ay)⊕(Int×List ay))(h:CY a=some o):AWP (OkS Tryz.prog) pk (qL [0,1,5] [1000000000] (MF) (qX 0 [1] [1000000000] (BN)) o) (MF a):=by
 have e:=ZA @MF.eq_1 @BN.eq_1;unfold CY at h;simp only[ZC,MF,pk];obtain⟨b,h⟩|⟨b,h⟩:=au h
 ·obtain⟨i1,v,h⟩:=ae h;obtain⟨c,w,h⟩:=ae h;obtain⟨k,l,h⟩:=bj h;have x:(a.2.2.map (ai .u)).set (Int.toNat a.2.1) (.agg [.i a.1,.i c.B,.i c.F,.i c.N])=k.map (ai .u):=by rw[<-l,List.map_set];rfl
  obtain⟨d,y,h⟩:=ae h;obtain⟨m,p,h⟩:=bj h;have z:(k.map (ai .u)).set (Int.toNat a.2.1) (.agg [.i d.A,.i (IntKind.wrap .i64 (a.1+1)),.i d.F,.i d.N])=m.map (ai .u):=by rw[<-p,List.map_set];rfl
  obtain⟨g,a1,h⟩:=ae h;obtain⟨q,s,h⟩:=bj h;have b1:(m.map (ai .u)).set (Int.toNat a.2.1) (.agg [.i g.A,.i g.B,.i (IntKind.wrap .i64 ((IntKind.wrap .i64 (a.1+1))+1)),.i g.N])=q.map (ai .u):=by rw[<-s,List.map_set];rfl
  obtain⟨j,c1,h⟩:=ae h;obtain⟨d1,t,h⟩:=bj h;have g1:(q.map (ai .u)).set (Int.toNat a.2.1) (.agg [.i j.A,.i j.B,.i j.F,.i (IntKind.wrap .i64 ((IntKind.wrap .i64 ((IntKind.wrap .i64 (a.1+1))+1))+1))])=d1.map (ai .u):=by rw[<-t,List.map_set];rfl
  cases h;exact ZL (ZA b (ZA (be v) (ZA w (ZA x (ZA y (ZA z (ZA a1 (ZA b1 (ZA c1 g1))))))))) (ZA e (ZA l.symm (ZA p.symm (ZA s.symm t.symm))))
 ·cases h;exact ZL b e
theorem w_hn(b:Int)(a:List ay){r:Int×List ay}(h:HY b a=some r):OkM Tryz.prog 103 [.sl 1000000000 0 a.length,.i b] [(1000000000,.arr 4 (a.map (ai .u)))] (.i r.1) ([(1000000000,.arr 4 (r.2.map (ai .u)))]):=by
 refine bJ (lr:=[1000000000]) aZ UO rfl rfl ?_;unfold HY at h;simp only[ZC,Gs,V85];obtain⟨d,c,h⟩:=ae h;try refine ZF trivial ?_
 refine aJ (bn (aF (w_an) c ?_)) ?_
 ·exact ZK (ZA @MF.eq_1 @BN.eq_1)
 ·simp only[ZC,BN,vW];cases h;exact ZL trivial @V85.eq_1
theorem w_ho(c:Int)(a:List ByteArray)(b:List ay){r:Int×List ByteArray×List ay}(h:Kt c a b=some r):OkM Tryz.prog 42 [.agg [.sl 1000000000 0 a.length,.sl 1000000001 0 b.length],.i c] [(1000000000,.arr 1 (a.map AV.z)),(1000000001,.arr 4 (b.map (ai .u)))] (.i r.1) ([(1000000000,.arr 1 (r.2.1.map AV.z)),(1000000001,.arr 4 (r.2.2.map (ai .u)))]):=by
 refine bJ (lr:=[1000000000,1000000001]) aZ Xx rfl rfl ?_;unfold Kt at h;simp only[ZC,Ue,V85];obtain⟨j,d,h⟩:=ae h;refine ZF trivial ?_;refine ZWG trivial (w_hm _ _ d) [1000000000] [] ?_;obtain⟨k,g,h⟩:=ae h;refine ZF trivial ?_;refine ZWG trivial (w_hn _ _ g) [1000000000] [] ?_;cases h;exact ZL trivial @V85.eq_1
def KN(v:Int×Int×List Int):St:=⟨[(0,.sl 1000000000 0 v.2.2.length),(1,.i v.1),(5,.i v.2.1)],[(1000000000,.arr 1 (v.2.2.map AV.i))]⟩
def AU(v:Int×List Int):St:=⟨[(1,.i v.1)],[(1000000000,.arr 1 (v.2.map AV.i))]⟩
theorem w_ao(a:Int×Int×List Int)(o:(Int×Int×List Int)⊕(Int×List Int))(h:FK a=some o):AWP (OkS Tryz.prog) tJ (qL [0,1,5] [1000000000] (KN) (qX 0 [1] [1000000000] (AU)) o) (KN a):=by
 have e:=ZA @KN.eq_1 @AU.eq_1;unfold FK at h;simp only[ZC,KN,tJ];obtain⟨b,h⟩|⟨b,h⟩:=au h
 ·obtain⟨l,d,h⟩:=ae h;obtain⟨m,g,h⟩:=ae h;obtain⟨j,c,h⟩:=bj h;have k:(a.2.2.map AV.i).set (Int.toNat a.2.1) (.i a.1)=j.map AV.i:=by rw[<-c,List.map_set]
  cases h;exact ZL (ZA b (ZA (be d) (ZA g k))) (ZA e c.symm)
 ·cases h;exact ZL b e
theorem Vf(b:Int)(a:List Int){r:Int×List Int}(h:xW b a=some r):OkM Tryz.prog 22 [.sl 1000000000 0 a.length,.i b] [(1000000000,.arr 1 (a.map AV.i))] (.i r.1) ([(1000000000,.arr 1 (r.2.map AV.i))]):=by
 refine bJ (lr:=[1000000000]) aZ Xi rfl rfl ?_;unfold xW at h;simp only[ZC,Tw,V85];obtain⟨d,c,h⟩:=ae h;try refine ZF trivial ?_
 refine aJ (bn (aF (w_ao) c ?_)) ?_
 ·exact ZK (ZA @KN.eq_1 @AU.eq_1)
 ·simp only[ZC,AU,BH];cases h;exact ZL trivial @V85.eq_1
def Oe(v:Int×Int×List aj):St:=⟨[(0,.sl 1000000000 0 v.2.2.length),(1,.i v.1),(5,.i v.2.1)],[(1000000000,.arr 5 (v.2.2.map (ah .u)))]⟩
def Bm(v:Int×List aj):St:=⟨[(1,.i v.1)],[(1000000000,.arr 5 (v.2.map (ah .u)))]⟩
theorem w_ap(a:Int×Int×List aj)(o:(Int×Int×List aj)⊕(Int×List aj))(h:Db a=some o):AWP (OkS Tryz.prog) tK (qL [0,1,5] [1000000000] (Oe) (qX 0 [1] [1000000000] (Bm)) o) (Oe a):=by
 have e:=ZA @Oe.eq_1 @Bm.eq_1;unfold Db at h;simp only[ZC,Oe,tK];obtain⟨d,h⟩|⟨d,h⟩:=au h
 ·obtain⟨w1,l1,h⟩:=ae h;obtain⟨m,p⟩:=be l1;obtain⟨g,q,h⟩:=ae h;obtain⟨s,t,h⟩:=bj h;have w:(a.2.2.map (ah .u)).set (Int.toNat a.2.1) (.agg [.i a.1,.i g.F.N,.lst .u 1 (g.F.F.map AV.i),.i g.N.N,.i g.N.F])=s.map (ah .u):=by rw[<-t,List.map_set];rfl
  obtain⟨j,x,h⟩:=ae h;obtain⟨y,a1,h⟩:=bj h;have b1:(s.map (ah .u)).set (Int.toNat a.2.1) (.agg [.i j.Id,.i (IntKind.wrap .i64 (a.1+1)),.lst .u 1 (j.F.F.map AV.i),.i j.N.N,.i j.N.F])=y.map (ah .u):=by rw[<-a1,List.map_set];rfl
  obtain⟨b,c1,h⟩:=ae h;obtain⟨c,m1,h⟩:=ae h;obtain⟨d1,g1,h⟩:=bj h;have p1:(y.map (ah .u)).set (Int.toNat a.2.1) (.agg [.i b.Id,.i b.F.N,.lst .u 1 (c.2.map AV.i),.i b.N.N,.i b.N.F])=d1.map (ah .u):=by rw[<-g1,List.map_set];rfl
  have f:=ZA d (ZA m (ZA p (ZA q (ZA w (ZA x (ZA b1 c1))))));refine ZF f ?_;refine Xr (v:=.int .i64 c.1) (ys':=c.2.map AV.i) (z:=.agg [.i b.Id,.i b.F.N,.lst .u 1 (c.2.map AV.i),.i b.N.N,.i b.N.F]) (by simp only[VS1,VS2,VS3,VS4,VS5,VS6,VT1,VT2,bx,bz,decide_true,decide_false,List.nodup_nil,List.nodup_cons,cR,cP,cS,ne_eq,not_false_eq_true,Int.reduceEq,Int.reduceNe,true_and,false_and,Nat.reduceSub,Nat.reduceMul,↓reduceIte,reduceCtorEq,Nat.reduceEqDiff,Nat.reduceAdd,Nat.reduceLeDiff,Int.reduceLE,d,m,p,q,w,x,b1,c1];exact Vf _ _ m1) (by simp[AV.flat,VT1,VT2]) (by simp[ti,nO,eO,cJ,dj,nI,sK,sW,sS,nL,cF,cd,eN,cI,kR,dh,cH,cg,kS,kQ,iG,dr,dq,dl,du,cG,di,cE,dm,dp,dt,DT]) (by simp[VS1,VS2,VS3,VS4,VS5,VS6,VT1,VT2]) (by simp[AV.flat,VT1,VT2]) rfl ?_;refine ZG ?_;obtain⟨k,q1,h⟩:=ae h;obtain⟨i1,j1,h⟩:=bj h;have s1:(d1.map (ah .u)).set (Int.toNat a.2.1) (.agg [.i k.Id,.i k.F.N,.lst .u 1 (k.F.F.map AV.i),.i c.1,.i k.N.F])=i1.map (ah .u):=by rw[<-j1,List.map_set];rfl
  obtain⟨l,t1,h⟩:=ae h;obtain⟨u1,k1,h⟩:=bj h;have v1:(i1.map (ah .u)).set (Int.toNat a.2.1) (.agg [.i l.Id,.i l.F.N,.lst .u 1 (l.F.F.map AV.i),.i l.N.N,.i (IntKind.wrap .i64 (c.1+1))])=u1.map (ah .u):=by rw[<-k1,List.map_set];rfl
  cases h;exact ZL (ZA f (ZA p1 (ZA q1 (ZA s1 (ZA t1 v1))))) (ZA e (ZA t.symm (ZA a1.symm (ZA g1.symm (ZA j1.symm k1.symm)))))
 ·cases h;exact ZL d e
theorem PK(b:Int)(a:List aj){r:Int×List aj}(h:DX b a=some r):OkH Tryz.prog 73 [.sl 1000000000 0 a.length,.i b] [(1000000000,.arr 5 (a.map (ah .u)))] (.i r.1) ([(1000000000,.arr 5 (r.2.map (ah .u)))]):=by
 refine km (lr:=[1000000000]) aZ Xp rfl ?_;unfold DX at h;simp only[ZC,TY,V85];obtain⟨d,c,h⟩:=ae h;try refine ZF trivial ?_
 refine aJ (bn (aF (w_ap) c ?_)) ?_
 ·exact ZK (ZA @Oe.eq_1 @Bm.eq_1)
 ·simp only[ZC,Bm,AR];cases h;exact ZL trivial @V85.eq_1
theorem w_es(d:Int)(a:List ByteArray)(b:List ay)(c:List aj){r:Int×List ByteArray×List ay×List aj}(h:Gu d a b c=some r):OkH Tryz.prog 29 [.agg [.sl 1000000000 0 a.length,.sl 1000000001 0 b.length,.sl 1000000002 0 c.length],.i d] [(1000000000,.arr 1 (a.map AV.z)),(1000000001,.arr 4 (b.map (ai .u))),(1000000002,.arr 5 (c.map (ah .u)))] (.i r.1) ([(1000000000,.arr 1 (r.2.1.map AV.z)),(1000000001,.arr 4 (r.2.2.1.map (ai .u))),(1000000002,.arr 5 (r.2.2.2.map (ah .u)))]):=by
 refine km (lr:=[1000000000,1000000001,1000000002]) aZ Xq rfl ?_;unfold Gu at h;simp only[ZC,Uc,V85];obtain⟨k,j,h⟩:=ae h;refine ZF trivial ?_;refine ZWG trivial (w_ho _ _ _ j) [1000000000,1000000001] [] ?_;obtain⟨l,g,h⟩:=ae h;refine ZF trivial ?_;refine⟨by simp[ti,nO,eO,cJ,dj,nI,sK,sW,sS,nL,cF,cd,eN,cI,kR,dh,cH,cg,kS,kQ,iG,dr,dq,dl,du,cG,di,cE,dm,dp,dt,DT],jl (ok:=⟨_,_,_⟩) (by simp only[VS1,VS2,VS3,VS4,VS5,VS6,VT1,VT2,bx,bz,decide_true,decide_false,List.nodup_nil,List.nodup_cons,cR,cP,cS,ne_eq,not_false_eq_true,Int.reduceEq,Int.reduceNe,true_and,false_and,Nat.reduceSub,Nat.reduceMul,↓reduceIte,reduceCtorEq,Nat.reduceEqDiff,Nat.reduceAdd,Nat.reduceLeDiff,Int.reduceLE];first|exact PK _ _ g|(have hw:=PK _ _ g;simp only[VS1,VS2,VS3,VS4,VS5,VS6,VT1,VT2,bx,bz,decide_true,decide_false,List.nodup_nil,List.nodup_cons,cR,cP,cS,ne_eq,not_false_eq_true,Int.reduceEq,Int.reduceNe,true_and,false_and,Nat.reduceSub,Nat.reduceMul,↓reduceIte,reduceCtorEq,Nat.reduceEqDiff,Nat.reduceAdd,Nat.reduceLeDiff,Int.reduceLE] at hw;exact hw)) (by simp[VS1,VS2,VS3,VS4,VS5,VS6,VT1,VT2]) (by first|exact ry [1000000000] rfl (by decide+kernel)|exact mg [1000000000] [] rfl (by decide+kernel) (by simp[VS1,VS2,VS3,VS4,VS5,VS6,VT1,VT2])|simp[VS1,VS2,VS3,VS4,VS5,VS6,VT1,VT2]) ?_⟩;refine ZG ?_;cases h;exact ZL trivial @V85.eq_1
theorem RN(j:Int)(a:List ByteArray)(b:List ay)(c:List aj)(d:List aj)(g:List Int){r:Int×List ByteArray×List ay×List aj×List aj×List Int}(h:Em j a b c d g=some r):OkH Tryz.prog 21 [.agg [.sl 1000000000 0 a.length,.sl 1000000001 0 b.length,.sl 1000000002 0 c.length,.sl 1000000003 0 d.length,.sl 1000000004 0 g.length],.i j] [(1000000000,.arr 1 (a.map AV.z)),(1000000001,.arr 4 (b.map (ai .u))),(1000000002,.arr 5 (c.map (ah .u))),(1000000003,.arr 5 (d.map (ah .u))),(1000000004,.arr 1 (g.map AV.i))] (.i r.1) ([(1000000000,.arr 1 (r.2.1.map AV.z)),(1000000001,.arr 4 (r.2.2.1.map (ai .u))),(1000000002,.arr 5 (r.2.2.2.1.map (ah .u))),(1000000003,.arr 5 (r.2.2.2.2.1.map (ah .u))),(1000000004,.arr 1 (r.2.2.2.2.2.map AV.i))]):=by
 refine km (lr:=[1000000000,1000000001,1000000002,1000000003,1000000004]) aZ XD rfl ?_;unfold Em at h;simp only[ZC,TM,V85];obtain⟨p,k,h⟩:=ae h;refine ZF trivial ?_;refine⟨by simp[ti,nO,eO,cJ,dj,nI,sK,sW,sS,nL,cF,cd,eN,cI,kR,dh,cH,cg,kS,kQ,iG,dr,dq,dl,du,cG,di,cE,dm,dp,dt,DT],jl (ok:=⟨_,_,_⟩) (by simp only[VS1,VS2,VS3,VS4,VS5,VS6,VT1,VT2,bx,bz,decide_true,decide_false,List.nodup_nil,List.nodup_cons,cR,cP,cS,ne_eq,not_false_eq_true,Int.reduceEq,Int.reduceNe,true_and,false_and,Nat.reduceSub,Nat.reduceMul,↓reduceIte,reduceCtorEq,Nat.reduceEqDiff,Nat.reduceAdd,Nat.reduceLeDiff,Int.reduceLE];first|exact w_es _ _ _ _ k|(have hw:=w_es _ _ _ _ k;simp only[VS1,VS2,VS3,VS4,VS5,VS6,VT1,VT2,bx,bz,decide_true,decide_false,List.nodup_nil,List.nodup_cons,cR,cP,cS,ne_eq,not_false_eq_true,Int.reduceEq,Int.reduceNe,true_and,false_and,Nat.reduceSub,Nat.reduceMul,↓reduceIte,reduceCtorEq,Nat.reduceEqDiff,Nat.reduceAdd,Nat.reduceLeDiff,Int.reduceLE] at hw;exact hw)) (by simp[VS1,VS2,VS3,VS4,VS5,VS6,VT1,VT2]) (by first|exact ry [1000000000,1000000001,1000000002] rfl (by decide+kernel)|exact mg [1000000000,1000000001,1000000002] [] rfl (by decide+kernel) (by simp[VS1,VS2,VS3,VS4,VS5,VS6,VT1,VT2])|simp[VS1,VS2,VS3,VS4,VS5,VS6,VT1,VT2]) ?_⟩;refine ZG ?_;obtain⟨q,l,h⟩:=ae h;refine ZF trivial ?_;refine⟨by simp[ti,nO,eO,cJ,dj,nI,sK,sW,sS,nL,cF,cd,eN,cI,kR,dh,cH,cg,kS,kQ,iG,dr,dq,dl,du,cG,di,cE,dm,dp,dt,DT],jl (ok:=⟨_,_,_⟩) (by simp only[VS1,VS2,VS3,VS4,VS5,VS6,VT1,VT2,bx,bz,decide_true,decide_false,List.nodup_nil,List.nodup_cons,cR,cP,cS,ne_eq,not_false_eq_true,Int.reduceEq,Int.reduceNe,true_and,false_and,Nat.reduceSub,Nat.reduceMul,↓reduceIte,reduceCtorEq,Nat.reduceEqDiff,Nat.reduceAdd,Nat.reduceLeDiff,Int.reduceLE];first|exact PK _ _ l|(have hw:=PK _ _ l;simp only[VS1,VS2,VS3,VS4,VS5,VS6,VT1,VT2,bx,bz,decide_true,decide_false,List.nodup_nil,List.nodup_cons,cR,cP,cS,ne_eq,not_false_eq_true,Int.reduceEq,Int.reduceNe,true_and,false_and,Nat.reduceSub,Nat.reduceMul,↓reduceIte,reduceCtorEq,Nat.reduceEqDiff,Nat.reduceAdd,Nat.reduceLeDiff,Int.reduceLE] at hw;exact hw)) (by simp[VS1,VS2,VS3,VS4,VS5,VS6,VT1,VT2]) (by first|exact ry [1000000000] rfl (by decide+kernel)|exact mg [1000000000] [] rfl (by decide+kernel) (by simp[VS1,VS2,VS3,VS4,VS5,VS6,VT1,VT2])|simp[VS1,VS2,VS3,VS4,VS5,VS6,VT1,VT2]) ?_⟩;refine ZG ?_;obtain⟨s,m,h⟩:=ae h;refine ZF trivial ?_;refine ZWG trivial (Vf _ _ m) [1000000000] [] ?_;cases h;exact ZL trivial @V85.eq_1
theorem w_et(a:List ByteArray)(d:Int×Int)(o:(Int×Int)⊕(Int⊕Int))(h:Fc a d=some o):AWP (OkS Tryz.prog) zk (qL [0,1,5] [] (S_b a) (qS (qX 0 [1] [] (gc)) (qR V85 (fun r=>.i r))) o) (S_b a d):=by
 have e:=ZA @S_b.eq_1 @gc.eq_1;unfold Fc at h;simp only[ZC,S_b,zk];obtain⟨b,h⟩|⟨b,h⟩:=au h
 ·obtain⟨k,g,h⟩:=ae h;obtain⟨l,j,h⟩:=ae h;have f:=ZA b (aO g);refine ZF f ?_;refine ZSG f (w_da _ j) ?_;obtain⟨c,h⟩|⟨c,h⟩:=au h
  ·cases h;exact ZL (ZA f c) @V85.eq_1
  ·cases h;exact ZL (ZA f c) e
 ·cases h;exact ZL b e
theorem w_eu(a:List ByteArray)(b:Int){r:Int}(h:Ej a b=some r):Ok Tryz.prog 162 [.lst .o 1 (a.map AV.z),.i b] (.i r):=by
 refine ax aZ m162 rfl ?_;unfold Ej at h;simp only[ZC,A162,V85,aB];obtain⟨c,d,h⟩:=ae h;try refine ZF trivial ?_
 refine bl (o:=c) (br cz (aF (w_et a) d ?_)) (fun j hv=>?_) (fun k hv e τ hne hq=>?_)
 ·exact ZK (ZA @S_b.eq_1 @gc.eq_1)
 ·subst hv;simp only[] at h;simp only[ZC,gc,LY];cases h;exact ZL trivial @V85.eq_1
 ·subst hv;simp only[] at h;obtain⟨rfl,g⟩:=hq;cases h;exact g
def Cb(a:List ay)(v:Int×Int):St:=⟨[(0,.lst .o 4 (a.map (ai .o))),(1,.i v.1),(5,.i v.2)],[]⟩
theorem w_bi(j:List ay)(l:Int×Int)(o:(Int×Int)⊕(Int⊕Int))(h:El j l=some o):AWP (OkS Tryz.prog) zA (qL [0,1,5] [] (Cb j) (qS (qX 0 [1] [] (gc)) (qR V85 (fun r=>.i r))) o) (Cb j l):=by
 have e:=@V85.eq_1;unfold El at h;simp only[ZC,Cb,zA];obtain⟨a,h⟩|⟨a,h⟩:=au h
 ·obtain⟨m,c,h⟩:=ae h;obtain⟨b,h⟩|⟨b,h⟩:=au h
  ·cases h;exact ZL (ZA a (ZA (aO c) b)) e
  ·obtain⟨d,h⟩|⟨d,h⟩:=au h
   ·cases h;exact ZL (ZA a (ZA (aO c) (ZA b d))) e
   ·obtain⟨g,h⟩|⟨g,h⟩:=au h
    ·cases h;exact ZL (ZA a (ZA (aO c) (ZA b (ZA d g)))) e
    ·obtain⟨k,h⟩|⟨k,h⟩:=au h
     ·cases h;exact ZL (ZA a (ZA (aO c) (ZA b (ZA d (ZA g k))))) e
     ·cases h;exact ZL (ZA a (ZA (aO c) (ZA b (ZA d (ZA g k))))) (ZA @Cb.eq_1 @gc.eq_1)
 ·cases h;exact ZL a (ZA @Cb.eq_1 @gc.eq_1)
theorem w_ev(a:List ay)(b:Int){r:Int}(h:Eg a b=some r):Ok Tryz.prog 163 [.lst .o 4 (a.map (ai .o)),.i b] (.i r):=by
 refine ax aZ m163 rfl ?_;unfold Eg at h;simp only[ZC,A163,V85,aB];obtain⟨c,d,h⟩:=ae h;try refine ZF trivial ?_
 refine bl (o:=c) (br cz (aF (w_bi a) d ?_)) (fun j hv=>?_) (fun k hv e τ hne hq=>?_)
 ·exact ZK (ZA @Cb.eq_1 @gc.eq_1)
 ·subst hv;simp only[] at h;simp only[ZC,gc,IC];cases h;exact ZL trivial @V85.eq_1
 ·subst hv;simp only[] at h;obtain⟨rfl,g⟩:=hq;cases h;exact g
theorem w_ew(b:af)(d:Int){r:Int}(h:Dg b d=some r):Ok Tryz.prog 104 [.agg [.lst .o 1 (b.N.map AV.z),.lst .o 4 (b.F.map (ai .o))],.i d] (.i r):=by
 refine ax aZ m104 rfl ?_;unfold Dg at h;simp only[ZC,A104,V85,aB];obtain⟨k,g,h⟩:=ae h;refine ZF trivial ?_;refine ZSG trivial (w_eu _ _ g) ?_;obtain⟨a,h⟩|⟨a,h⟩:=au h
 ·cases h;exact ZL a @V85.eq_1
 ·obtain⟨l,j,h⟩:=ae h;refine ZF a ?_;refine ZSG a (w_ev _ _ j) ?_;obtain⟨c,h⟩|⟨c,h⟩:=au h
  ·cases h;exact ZL (ZA a c) @V85.eq_1
  ·cases h;exact ZL (ZA a c) @V85.eq_1
def Hu(a:List Int)(v:Int×Int):St:=⟨[(0,.lst .o 1 (a.map AV.i)),(1,.i v.1),(5,.i v.2)],[]⟩
theorem w_ch(b:List Int)(d:Int×Int)(o:(Int×Int)⊕(Int⊕Int))(h:Co b d=some o):AWP (OkS Tryz.prog) JI (qL [0,1,5] [] (Hu b) (qS (qX 0 [1] [] (gc)) (qR V85 (fun r=>.i r))) o) (Hu b d):=by
 have e:=ZA @Hu.eq_1 @gc.eq_1;unfold Co at h;simp only[ZC,Hu,JI];obtain⟨a,h⟩|⟨a,h⟩:=au h
 ·obtain⟨j,g,h⟩:=ae h;obtain⟨c,h⟩|⟨c,h⟩:=au h
  ·cases h;exact ZL (ZA a (ZA (aO g) c)) @V85.eq_1
  ·cases h;exact ZL (ZA a (ZA (aO g) c)) e
 ·cases h;exact ZL a e
theorem Ro(a:List Int)(b:Int){r:Int}(h:si a b=some r):Ok Tryz.prog 23 [.lst .o 1 (a.map AV.i),.i b] (.i r):=by
 refine ax aZ m23 rfl ?_;unfold si at h;simp only[ZC,A23,V85,aB];obtain⟨c,d,h⟩:=ae h;try refine ZF trivial ?_
 refine bl (o:=c) (br cz (aF (w_ch a) d ?_)) (fun j hv=>?_) (fun k hv e τ hne hq=>?_)
 ·exact ZK (ZA @Hu.eq_1 @gc.eq_1)
 ·subst hv;simp only[] at h;simp only[ZC,gc,TF];cases h;exact ZL trivial @V85.eq_1
 ·subst hv;simp only[] at h;obtain⟨rfl,g⟩:=hq;cases h;exact g
theorem w_ex(g:List aj)(m:Int×Int)(o:(Int×Int)⊕(Int⊕Int))(h:Dr g m=some o):AWP (OkS Tryz.prog) Nh (qL [0,1,5] [] (S_w g) (qS (qX 0 [1] [] (gc)) (qR V85 (fun r=>.i r))) o) (S_w g m):=by
 have e:=@V85.eq_1;unfold Dr at h;simp only[ZC,S_w,Nh];obtain⟨a,h⟩|⟨a,h⟩:=au h
 ·obtain⟨q,j,h⟩:=ae h;obtain⟨c,h⟩|⟨c,h⟩:=au h
  ·cases h;exact ZL (ZA a (ZA (aO j) c)) e
  ·obtain⟨k,h⟩|⟨k,h⟩:=au h
   ·cases h;exact ZL (ZA a (ZA (aO j) (ZA c k))) e
   ·obtain⟨s,p,h⟩:=ae h;have f:=ZA a (ZA (aO j) (ZA c k));refine ZF f ?_;refine ZSG f (Ro _ _ p) ?_;obtain⟨b,h⟩|⟨b,h⟩:=au h
    ·cases h;exact ZL (ZA f b) e
    ·obtain⟨d,h⟩|⟨d,h⟩:=au h
     ·cases h;exact ZL (ZA f (ZA b d)) e
     ·obtain⟨l,h⟩|⟨l,h⟩:=au h
      ·cases h;exact ZL (ZA f (ZA b (ZA d l))) e
      ·cases h;exact ZL (ZA f (ZA b (ZA d l))) (ZA @S_w.eq_1 @gc.eq_1)
 ·cases h;exact ZL a (ZA @S_w.eq_1 @gc.eq_1)
theorem w_de(a:List aj)(b:Int){r:Int}(h:wk a b=some r):Ok Tryz.prog 78 [.lst .o 5 (a.map (ah .o)),.i b] (.i r):=by
 refine ax aZ m78 rfl ?_;unfold wk at h;simp only[ZC,A78,V85,aB];obtain⟨c,d,h⟩:=ae h;try refine ZF trivial ?_
 refine bl (o:=c) (br cz (aF (w_ex a) d ?_)) (fun j hv=>?_) (fun k hv e τ hne hq=>?_)
 ·exact ZK (ZA @S_w.eq_1 @gc.eq_1)
 ·subst hv;simp only[] at h;simp only[ZC,gc,Tu];cases h;exact ZL trivial @V85.eq_1
 ·subst hv;simp only[] at h;obtain⟨rfl,g⟩:=hq;cases h;exact g
theorem w_ey(b:aK)(d:Int){r:Int}(h:Dh b d=some r):Ok Tryz.prog 44 [.agg [.lst .o 1 (b.F.N.map AV.z),.lst .o 4 (b.F.F.map (ai .o)),.lst .o 5 (b.N.map (ah .o))],.i d] (.i r):=by
 refine ax aZ m44 rfl ?_;unfold Dh at h;simp only[ZC,A44,V85,aB];obtain⟨k,g,h⟩:=ae h;refine ZF trivial ?_;refine ZSG trivial (w_ew _ _ g) ?_;obtain⟨a,h⟩|⟨a,h⟩:=au h
 ·cases h;exact ZL a @V85.eq_1
 ·obtain⟨l,j,h⟩:=ae h;refine ZF a ?_;refine ZSG a (w_de _ _ j) ?_;obtain⟨c,h⟩|⟨c,h⟩:=au h
  ·cases h;exact ZL (ZA a c) @V85.eq_1
  ·cases h;exact ZL (ZA a c) @V85.eq_1
theorem w_df(a:aq)(g:Int){r:Int}(h:wD a g=some r):Ok Tryz.prog 30 [.agg [.lst .o 1 (a.F.F.N.map AV.z),.lst .o 4 (a.F.F.F.map (ai .o)),.lst .o 5 (a.F.N.map (ah .o)),.lst .o 5 (a.N.map (ah .o)),.lst .o 1 (a.L.map AV.i)],.i g] (.i r):=by
 refine ax aZ m30 rfl ?_;unfold wD at h;simp only[ZC,A30,V85,aB];obtain⟨m,j,h⟩:=ae h;refine ZF trivial ?_;refine ZSG trivial (w_ey _ _ j) ?_;obtain⟨b,h⟩|⟨b,h⟩:=au h
 ·cases h;exact ZL b @V85.eq_1
 ·obtain⟨p,k,h⟩:=ae h;refine ZF b ?_;refine ZSG b (w_de _ _ k) ?_;obtain⟨c,h⟩|⟨c,h⟩:=au h
  ·cases h;exact ZL (ZA b c) @V85.eq_1
  ·obtain⟨q,l,h⟩:=ae h;have f:=ZA b c;refine ZF f ?_;refine ZSG f (Ro _ _ l) ?_;obtain⟨d,h⟩|⟨d,h⟩:=au h
   ·cases h;exact ZL (ZA f d) @V85.eq_1
   ·cases h;exact ZL (ZA f d) @V85.eq_1
theorem w_ih(d:aq){r:Bool}(h:Rt d=some r):Ok Tryz.prog 11 [.agg [.lst .o 1 (d.F.F.N.map AV.z),.lst .o 4 (d.F.F.F.map (ai .o)),.lst .o 5 (d.F.N.map (ah .o)),.lst .o 5 (d.N.map (ah .o)),.lst .o 1 (d.L.map AV.i)]] (.b r):=by
 have e:=@V91.eq_1;refine ax aZ m11 rfl ?_;unfold Rt at h;simp only[ZC,A11,V91,aB];obtain⟨x3,s1,h⟩:=ae h;refine ZF trivial ?_;refine ZSG trivial (w_fg _ _ s1) ?_;obtain⟨c,h⟩|⟨c,h⟩:=au h
 ·cases h;exact ZL c e
 ·obtain⟨y3,t1,h⟩:=ae h;refine ZF c ?_;refine ZUG c (Sv _ t1) ?_;obtain⟨g,u1,h⟩:=ae h;refine ZF c ?_;refine ZWG c (w_gg _ _ _ _ _ u1) [3,500000128,500000129,500000130,500000131,500000132,1000000000,1000000001,1000000002,1000000003,1000000004] [2600003,502600128,502600129,502600130,502600131,502600132] ?_;obtain⟨j,v1,h⟩:=ae h;refine ZF c ?_;refine ZUG c (Sv _ v1) ?_;obtain⟨a,w1,h⟩:=ae h;refine ZF c ?_;refine ZUG c (w_ef _ w1) ?_;obtain⟨y1,z1,h⟩:=ae h;try refine ZF c ?_
  refine aJ (sh:=(fun v=>⟨[(1,.bp .o (.agg [.lst .o 1 (d.F.F.N.map AV.z),.lst .o 4 (d.F.F.F.map (ai .o)),.lst .o 5 (d.F.N.map (ah .o)),.lst .o 5 (d.N.map (ah .o)),.lst .o 1 (d.L.map AV.i)]) 0),(4,.bp .o (.agg [.lst .o 1 (g.2.2.1.map AV.z),.lst .o 4 (g.2.2.2.1.map (ai .o)),.lst .o 5 (g.2.2.2.2.1.map (ah .o)),.lst .o 5 (g.2.2.2.2.2.1.map (ah .o)),.lst .o 1 (g.2.2.2.2.2.2.1.map AV.i)]) 0),(5,.lst .o 1 (g.2.1.map AV.i)),(6,.b g.1),(7,.pt 7 0 0),(8,.pt 8 0 0),(9,.sl 9 0 a.2.1.length),(10,.b a.2.2),(51,.b v)],[(7,.var (.agg [.sl 30 0 j.F.F.N.length,.sl 1030 0 j.F.F.F.length,.sl 2030 0 j.F.N.length,.sl 3030 0 j.N.length,.sl 4030 0 j.L.length])),(8,.var (.agg [.sl 33 0 a.1.F.F.N.length,.sl 1033 0 a.1.F.F.F.length,.sl 2033 0 a.1.F.N.length,.sl 3033 0 a.1.N.length,.sl 4033 0 a.1.L.length])),(9,.arr 1 (a.2.1.map AV.i)),(30,.arr 1 (j.F.F.N.map AV.z)),(33,.arr 1 (a.1.F.F.N.map AV.z)),(1030,.arr 4 (j.F.F.F.map (ai .u))),(1033,.arr 4 (a.1.F.F.F.map (ai .u))),(2030,.arr 5 (j.F.N.map (ah .u))),(2033,.arr 5 (a.1.F.N.map (ah .u))),(3030,.arr 5 (j.N.map (ah .u))),(3033,.arr 5 (a.1.N.map (ah .u))),(4030,.arr 1 (j.L.map AV.i)),(4033,.arr 1 (a.1.L.map AV.i))]⟩)) (s:=y1) ?_ ?_
  ·replace h:=z1;obtain⟨z3,a2,h⟩:=ae h;refine ZF c ?_;refine ZSG c (Qa _ _ a2) ?_;obtain⟨w,h⟩|⟨w,h⟩:=au h
   ·cases h;exact ZL (ZA c w) trivial
   ·obtain⟨a4,b2,h⟩:=ae h;have f:=ZA c w;refine ZF f ?_;refine ZSG f (Js _ _ b2) ?_;obtain⟨x,h⟩|⟨x,h⟩:=au h
    ·cases h;exact ZL (ZA f x) trivial
    ·cases h;exact ZL (ZA f x) trivial
  ·simp only[ZC,Uk];obtain⟨l,h⟩|⟨l,h⟩:=au h
   ·cases h;exact ZL (ZA c l) e
   ·obtain⟨b4,c2,h⟩:=ae h;have f:=ZA c l;refine ZF f ?_;refine ZUG f (Sv _ c2) ?_;obtain⟨c4,d2,h⟩:=ae h;refine ZF f ?_;refine ZSG f (Qa _ _ d2) ?_;obtain⟨m,h⟩|⟨m,h⟩:=au h
    ·cases h;exact ZL (ZA f m) e
    ·obtain⟨d4,p1,h⟩:=ae h;have f:=ZA f m;refine ZF f ?_;refine⟨by simp[ti,nO,eO,cJ,dj,nI,sK,sW,sS,nL,cF,cd,eN,cI,kR,dh,cH,cg,kS,kQ,iG,dr,dq,dl,du,cG,di,cE,dm,dp,dt,DT],jl (ok:=⟨_,_,_⟩) (by simp only[VS1,VS2,VS3,VS4,VS5,VS6,VT1,VT2,bx,bz,decide_true,decide_false,List.nodup_nil,List.nodup_cons,cR,cP,cS,ne_eq,not_false_eq_true,Int.reduceEq,Int.reduceNe,true_and,false_and,Nat.reduceSub,Nat.reduceMul,↓reduceIte,reduceCtorEq,Nat.reduceEqDiff,Nat.reduceAdd,Nat.reduceLeDiff,Int.reduceLE,c,l,m];first|exact RN _ _ _ _ _ _ p1|(have hw:=RN _ _ _ _ _ _ p1;simp only[VS1,VS2,VS3,VS4,VS5,VS6,VT1,VT2,bx,bz,decide_true,decide_false,List.nodup_nil,List.nodup_cons,cR,cP,cS,ne_eq,not_false_eq_true,Int.reduceEq,Int.reduceNe,true_and,false_and,Nat.reduceSub,Nat.reduceMul,↓reduceIte,reduceCtorEq,Nat.reduceEqDiff,Nat.reduceAdd,Nat.reduceLeDiff,Int.reduceLE,c,l,m] at hw;exact hw)) (by simp[VS1,VS2,VS3,VS4,VS5,VS6,VT1,VT2]) (by first|exact ry [1000000000,1000000001,1000000002,1000000003,1000000004] rfl (by decide+kernel)|exact mg [1000000000,1000000001,1000000002,1000000003,1000000004] [] rfl (by decide+kernel) (by simp[VS1,VS2,VS3,VS4,VS5,VS6,VT1,VT2])|simp[VS1,VS2,VS3,VS4,VS5,VS6,VT1,VT2]) ?_⟩;refine ZG ?_;obtain⟨g2,i2,h⟩:=ae h;try refine ZF f ?_
     refine aJ (sh:=(fun v=>⟨[(1,.bp .o (.agg [.lst .o 1 (d.F.F.N.map AV.z),.lst .o 4 (d.F.F.F.map (ai .o)),.lst .o 5 (d.F.N.map (ah .o)),.lst .o 5 (d.N.map (ah .o)),.lst .o 1 (d.L.map AV.i)]) 0),(4,.bp .o (.agg [.lst .o 1 (g.2.2.1.map AV.z),.lst .o 4 (g.2.2.2.1.map (ai .o)),.lst .o 5 (g.2.2.2.2.1.map (ah .o)),.lst .o 5 (g.2.2.2.2.2.1.map (ah .o)),.lst .o 1 (g.2.2.2.2.2.2.1.map AV.i)]) 0),(5,.lst .o 1 (g.2.1.map AV.i)),(6,.b g.1),(8,.pt 8 0 0),(9,.sl 9 0 a.2.1.length),(78,.b v)],[(8,.var (.agg [.sl 33 0 a.1.F.F.N.length,.sl 1033 0 a.1.F.F.F.length,.sl 2033 0 a.1.F.N.length,.sl 3033 0 a.1.N.length,.sl 4033 0 a.1.L.length])),(9,.arr 1 (a.2.1.map AV.i)),(33,.arr 1 (a.1.F.F.N.map AV.z)),(1033,.arr 4 (a.1.F.F.F.map (ai .u))),(2033,.arr 5 (a.1.F.N.map (ah .u))),(3033,.arr 5 (a.1.N.map (ah .u))),(4033,.arr 1 (a.1.L.map AV.i))]⟩)) (s:=g2) ?_ ?_
     ·replace h:=i2;obtain⟨y,h⟩|⟨y,h⟩:=au h
      ·cases h;exact ZL (ZA f y) trivial
      ·obtain⟨g4,j2,h⟩:=ae h;have f:=ZA f y;refine ZF f ?_;refine ZSG f (Qa _ _ j2) ?_;obtain⟨a1,h⟩|⟨a1,h⟩:=au h
       ·cases h;exact ZL (ZA f a1) trivial
       ·obtain⟨i4,k2,h⟩:=ae h;have f:=ZA f a1;refine ZF f ?_;refine ZSG f (Js _ _ k2) ?_;obtain⟨b1,h⟩|⟨b1,h⟩:=au h
        ·cases h;exact ZL (ZA f b1) trivial
        ·cases h;exact ZL (ZA f b1) trivial
     ·simp only[ZC,Ug];obtain⟨p,h⟩|⟨p,h⟩:=au h
      ·cases h;exact ZL (ZA f p) e
      ·obtain⟨k,q1,h⟩:=ae h;have f:=ZA f p;refine ZF f ?_;refine⟨by simp[ti,nO,eO,cJ,dj,nI,sK,sW,sS,nL,cF,cd,eN,cI,kR,dh,cH,cg,kS,kQ,iG,dr,dq,dl,du,cG,di,cE,dm,dp,dt,DT],jl (ok:=⟨_,_,_⟩) (by simp only[VS1,VS2,VS3,VS4,VS5,VS6,VT1,VT2,bx,bz,decide_true,decide_false,List.nodup_nil,List.nodup_cons,cR,cP,cS,ne_eq,not_false_eq_true,Int.reduceEq,Int.reduceNe,true_and,false_and,Nat.reduceSub,Nat.reduceMul,↓reduceIte,reduceCtorEq,Nat.reduceEqDiff,Nat.reduceAdd,Nat.reduceLeDiff,Int.reduceLE,c,l,m,p];first|exact RN _ _ _ _ _ _ q1|(have hw:=RN _ _ _ _ _ _ q1;simp only[VS1,VS2,VS3,VS4,VS5,VS6,VT1,VT2,bx,bz,decide_true,decide_false,List.nodup_nil,List.nodup_cons,cR,cP,cS,ne_eq,not_false_eq_true,Int.reduceEq,Int.reduceNe,true_and,false_and,Nat.reduceSub,Nat.reduceMul,↓reduceIte,reduceCtorEq,Nat.reduceEqDiff,Nat.reduceAdd,Nat.reduceLeDiff,Int.reduceLE,c,l,m,p] at hw;exact hw)) (by simp[VS1,VS2,VS3,VS4,VS5,VS6,VT1,VT2]) (by first|exact ry [1000000000,1000000001,1000000002,1000000003,1000000004] rfl (by decide+kernel)|exact mg [1000000000,1000000001,1000000002,1000000003,1000000004] [] rfl (by decide+kernel) (by simp[VS1,VS2,VS3,VS4,VS5,VS6,VT1,VT2])|simp[VS1,VS2,VS3,VS4,VS5,VS6,VT1,VT2]) ?_⟩;refine ZG ?_;obtain⟨c1,l2,h⟩:=ae h;refine ZF f ?_;refine ZWG f (Vf _ _ l2) [1000000000] [] ?_;obtain⟨m2,p2,h⟩:=bj h;have q2:sub (k.2.1.map AV.z) 0 a.1.F.F.N.length=m2.map AV.z:=by rw[de,p2]
       obtain⟨s2,t2,h⟩:=bj h;have u2:sub (k.2.2.1.map (ai .u)) 0 a.1.F.F.F.length=s2.map (ai .u):=by rw[de,t2]
       obtain⟨v2,w2,h⟩:=bj h;have x2:sub (k.2.2.2.1.map (ah .u)) 0 a.1.F.N.length=v2.map (ah .u):=by rw[de,w2]
       obtain⟨y2,z2,h⟩:=bj h;have a3:sub (k.2.2.2.2.1.map (ah .u)) 0 a.1.N.length=y2.map (ah .u):=by rw[de,z2]
       obtain⟨b3,c3,h⟩:=bj h;have d3:sub (k.2.2.2.2.2.map AV.i) 0 a.1.L.length=b3.map AV.i:=by rw[de,c3]
       obtain⟨j4,g3,h⟩:=ae h;have f:=ZA f (ZA q2 (ZA u2 (ZA x2 (ZA a3 d3))));refine ZF f ?_;refine ZSG f (w_df _ _ g3) ?_;obtain⟨d1,h⟩|⟨d1,h⟩:=au h
       ·cases h;exact ZL (ZA f d1) e
       ·obtain⟨i3,j3,h⟩:=bj h;have k3:sub (c1.2.map AV.i) 0 a.2.1.length=i3.map AV.i:=by rw[de,j3]
        obtain⟨k4,l3,h⟩:=ae h;have f:=ZA f (ZA d1 k3);refine ZF f ?_;refine ZSG f (Ro _ _ l3) ?_;obtain⟨q,h⟩|⟨q,h⟩:=au h
        ·cases h;exact ZL (ZA f q) e
        ·obtain⟨g1,h⟩|⟨g1,h⟩:=au h
         ·cases h;exact ZL (ZA f (ZA q g1)) e
         ·obtain⟨l4,m3,h⟩:=ae h;have f:=ZA f (ZA q g1);refine ZF f ?_;refine ZUG f (Sv _ m3) ?_;obtain⟨m4,p3,h⟩:=ae h;refine ZF f ?_;refine ZUG f (w_ef _ p3) ?_;obtain⟨q3,s3,h⟩:=ae h;try refine ZF f ?_
          refine aJ (sh:=(fun v=>⟨[(8,.pt 8 0 0),(9,.sl 9 0 a.2.1.length),(12,.i c1.1),(119,.b v)],[(8,.var (.agg [.sl 33 0 a.1.F.F.N.length,.sl 1033 0 a.1.F.F.F.length,.sl 2033 0 a.1.F.N.length,.sl 3033 0 a.1.N.length,.sl 4033 0 a.1.L.length])),(9,.arr 1 (c1.2.map AV.i)),(33,.arr 1 (k.2.1.map AV.z)),(1033,.arr 4 (k.2.2.1.map (ai .u))),(2033,.arr 5 (k.2.2.2.1.map (ah .u))),(3033,.arr 5 (k.2.2.2.2.1.map (ah .u))),(4033,.arr 1 (k.2.2.2.2.2.map AV.i))]⟩)) (s:=q3) ?_ ?_
          ·replace h:=s3;obtain⟨p4,t3,h⟩:=ae h;refine ZF f ?_;refine ZSG f (Qa _ _ t3) ?_;obtain⟨i1,h⟩|⟨i1,h⟩:=au h
           ·cases h;exact ZL (ZA f i1) trivial
           ·obtain⟨q4,u3,h⟩:=ae h;have f:=ZA f i1;refine ZF f ?_;refine ZSG f (Js _ _ u3) ?_;obtain⟨j1,h⟩|⟨j1,h⟩:=au h
            ·cases h;exact ZL (ZA f j1) trivial
            ·cases h;exact ZL (ZA f j1) trivial
          ·simp only[ZC,Tv];obtain⟨k1,h⟩|⟨k1,h⟩:=au h
           ·cases h;exact ZL (ZA f k1) e
           ·obtain⟨s4,v3,h⟩:=ae h;have f:=ZA f k1;refine ZF f ?_;refine ZSG f (w_df _ _ v3) ?_;obtain⟨l1,h⟩|⟨l1,h⟩:=au h
            ·cases h;exact ZL (ZA f l1) e
            ·obtain⟨t4,w3,h⟩:=ae h;have f:=ZA f l1;refine ZF f ?_;refine ZSG f (Ro _ _ w3) ?_;obtain⟨t,h⟩|⟨t,h⟩:=au h
             ·cases h;exact ZL (ZA f t) e
             ·obtain⟨m1,h⟩|⟨m1,h⟩:=au h
              ·cases h;exact ZL (ZA f (ZA t m1)) e
              ·cases h;exact ZL (ZA f (ZA t m1)) e
end Vs

