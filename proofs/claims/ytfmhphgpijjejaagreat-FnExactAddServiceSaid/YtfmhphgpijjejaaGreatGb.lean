/-
  Part of the proof that FnExactAddService returns true at every input.
-/
import Derived.Test.YtfmhphgpijjejaaGreatGa
set_option linter.defProp false
set_option linter.unusedSimpArgs false
set_option linter.unusedVariables false
open And renaming intro -> A0
open Go.Proofs.Tryz renaming prog -> A1
open Nat renaming reduceEqDiff -> A2, reduceLeDiff -> A3, reduceSub -> A5, reduceMul -> A6, reduceAdd -> A7, reduceLT -> C3
open List renaming map_append -> A4, nodup_cons -> A8, nodup_nil -> B0, length_replicate -> B5, replicate -> B6, map_replicate -> B7, length_nil -> B8, length_append -> B9, map_set -> C0, length_cons -> C1, length_set -> C2
open Int renaming reduceEq -> B1, reduceNe -> B2, reduceLE -> B3, toNat -> B4
set_option maxHeartbeats 1000000
set_option maxRecDepth 8000
namespace Vs
open Go Go.Proofs
attribute [local irreducible] AWP dS eff vD gE callM
def VT1:=A0 @aF.eq_1<|A0 @au.eq_1<|A0 @aB.eq_1<|A0 @ax.eq_1<|A0 @bD.eq_1<|A0 @aj.eq_1<|A0 @aQ.eq_1<|A0 @cy.eq_1<|A0 @fy.eq_1<|A0 @dl.eq_1<|A0 @ay.eq_1<|(show(∀(x:Value)(f:Nat)(cs:List AV),setPart (.sc x) 0 (.fn f cs)=some (.fn f cs)) from fun _ _ _=>rfl)
def qN(f:Fl)(x:ai)(v:Value)(w:World)(S:Nat->Prop)(B:Nat)(fp:List Nat)(h:aV w S B v (ax f x) fp)(hk:v.cells.size=2):shK 2 v:=FK h hk
def VT2:=A0 @gG<|A0 @tJ<|A0 @fX<|A0 @tq<|A0 @sP<|A0 @fQ<|A0 @lJ<|A0 @ke<|A0 @pn<|A0 @il<|A0 @pq<|A0 @oX<|A0 @ib<|A0 @jS<|A0 @lD<|A0 @sJ<|A0 @iJ<|A0 @qE<|A0 @pX<|A0 @iH<|A0 @kf<|A0 @gH<|A0 @tc<|A0 @gI<|A0 @tH<|A0 @sS<|A0 @gF<|A0 @lN<|A0 @mD<|A0 @tm<|A0 @js<|A0 @tk<|A0 @tv<|A0 @jx<|A0 @lG<|A0 @kr<|A0 @pw<|A0 @gY<|A0 @pc<|A0 @pb<|A0 @gZ<|A0 @jW<|A0 @ly<|A0 @qz<|A0 @iI<|A0 @qZ<|A0 @sj<|A0 @iM<|A0 @km<|A0 @jU<|A0 @nM<|A0 @gu<|A0 @nT<|A0 @oa<|A0 @gA<|A0 @jc<|A0 @yE<|A0 @GE<|A0 @sf<|A0 @Jq<|A0 @HZ<|A0 @qn<|A0 @uN<|A0 @mG<|A0 @tL<|A0 @jB<|A0 @ti<|A0 @tr<|A0 @jF<|A0 @lz<|A0 @lL<|A0 @sC<|A0 @iK<|A0 @sH<|A0 @qT<|A0 @iG<|@kz
def VF1:=A0 @fQ<|A0 @lJ<|A0 @ib<|A0 @jS<|A0 @iH<|A0 @kf<|A0 @gF<|A0 @lN<|A0 @jx<|A0 @lG<|A0 @gZ<|A0 @jW<|A0 @iM<|A0 @km<|A0 @gA<|A0 @jc<|A0 @qn<|A0 @uN<|A0 @jF<|A0 @lz<|A0 @iG<|@kz
def Vo:=A0 @oM<|A0 @fS<|A0 @oJ<|A0 @fV<|A0 @lE<|A0 @qP<|A0 @lC<|A0 @sa<|A0 @nw<|A0 @sY<|A0 @mr<|A0 @tK<|A0 @oz<|A0 @ju<|A0 @oH<|A0 @jH<|A0 @oC<|A0 @vj<|A0 @oG<|A0 @uV<|A0 @lI<|A0 @qY<|A0 @lO<|A0 @qW<|A0 @nu<|A0 @tp<|A0 @mM<|A0 @ta<|A0 @kh<|A0 @pi<|A0 @ki<|A0 @ph<|A0 @EM<|A0 @QB<|A0 @DE<|A0 @LR<|A0 @oP<|A0 @vh<|A0 @oy<|A0 @vH<|A0 @mO<|A0 @tC<|A0 @nv<|@sU
theorem VE1:aF .o=aF .u/\aF .m=aF .u/\aF .s=aF .u/\aB .o=aB .u/\aB .m=aB .u/\aB .s=aB .u/\bD .o=bD .u/\bD .m=bD .u/\bD .s=bD .u/\aQ .o=aQ .u/\aQ .m=aQ .u/\aQ .s=aQ .u:=⟨rfl,rfl,rfl,rfl,rfl,rfl,rfl,rfl,rfl,rfl,rfl,rfl⟩
def Zr{α:Type}(n:Nat)(a:α):(B6 n a).length=n:=B5
def ZA{A B:Prop}(a:A)(b:B):A/\B:=⟨a,b⟩
def ZF{A:Prop}(a:A){P Q:Prop}(k:Q)(e:A->P=Q:=by intro a;simp only[VS1,VS2,VS3,VS4,VS5,VS6,VT1,VT2,bC,bB,decide_true,decide_false,B0,A8,du,dr,dq,ne_eq,not_false_eq_true,B1,B2,true_and,false_and,A5,A6,↓reduceIte,reduceCtorEq,A2,A7,A3,B3,a];exact Eq.refl _):P:=(e a).mpr k
def ZG{P Q:Prop}(k:Q)(e:P=Q:=by simp only[VA,VF1,↓reduceIte,A2,A7,A6,A5,A3];exact Eq.refl _):P:=e.mpr k
def ZL{A:Prop}(a:A){B:Prop}(b:B){P:Prop}(e:A->B->P:=by intro a b;(try simp only[VS1,VS2,VS3,VS4,VS5,VS6,VT1,VT2,bC,bB,decide_true,decide_false,B0,A8,du,dr,dq,ne_eq,not_false_eq_true,B1,B2,true_and,false_and,A5,A6,↓reduceIte,reduceCtorEq,A2,A7,A3,B3,a]);all_goals first|(simp[qL,qJ,qJ0,qS,qX,qR,qM,Shp,sub,hJ,bC,bB,VS1,VS2,VS3,VS4,VS5,VS6,VT1,VT2,b];done)|(simp[qL,qJ,qJ0,qS,qX,qR,qM,Shp,sub,hJ,bC,bB,VS1,VS2,VS3,VS4,VS5,VS6,VT1,VT2,VE1,b];done)|simp[qL,qJ,qJ0,qS,qX,qR,qM,Shp,sub,hJ,bC,bB,VS1,VS2,VS3,VS4,VS5,VS6,VT1,VT2,VE1,a,b]):P:=e a b
def ZK{B:Prop}(b:B){P:Prop}(e:B->P:=by intro b;simp[qL,qJ,qJ0,qS,qX,qR,qM,Shp,sub,hJ,bC,bB,VS1,VS2,VS3,VS4,VS5,VS6,VT1,VT2,b]):P:=e b
def ZS{A:Prop}(a:A){W:Prop}(w:W){ok:Oks}{ρ:Nat->Option Row}{d f:Nat}{args:List AV}{K:AV->List (Nat×Row)->Prop}{v:Value}(hk:K (.sc v) [])
 (e:A->W->ok.p f (args.map (snp ρ 4)) (.sc v):=by intro a w;simp only[VS1,VS2,VS3,VS4,VS5,VS6,VT1,VT2,bC,bB,decide_true,decide_false,B0,A8,du,dr,dq,ne_eq,not_false_eq_true,B1,B2,true_and,false_and,A5,A6,↓reduceIte,reduceCtorEq,A2,A7,A3,B3,a];exact w):gE ok ρ d f args K:=Ny (e a w) hk
def ZU{A:Prop}(a:A){W:Prop}(w:W){ok:Oks}{ρ:Nat->Option Row}{d f:Nat}{args:List AV}{K:AV->List (Nat×Row)->Prop}{res:AV}(hk:K (adopt 4 d res).1 (adopt 4 d res).2.1)
 (e:A->W->ok.p f (args.map (snp ρ 4)) res:=by intro a w;simp only[VS1,VS2,VS3,VS4,VS5,VS6,VT1,VT2,bC,bB,decide_true,decide_false,B0,A8,du,dr,dq,ne_eq,not_false_eq_true,B1,B2,true_and,false_and,A5,A6,↓reduceIte,reduceCtorEq,A2,A7,A3,B3,a];exact w) (hu:res.allU:=by simp[AV.allU,kw,tW,VT1,VT2]) (hn:∀p∈(adopt 4 d res).2.1,ρ p.1=none/\p.1<1000000000:=by simp only[VS1,VS2,VS3,VS4,VS5,VS6,VT1,VT2,bC,bB,decide_true,decide_false,B0,A8,du,dr,dq,ne_eq,not_false_eq_true,B1,B2,true_and,false_and,A5,A6,↓reduceIte,reduceCtorEq,A2,A7,A3,B3,C3]):gE ok ρ d f args K:=Qo (e a w) hu hn hk
def ZQ{P:Prop}(e:P:=by simp[VS1,VS2,VS3,VS4,VS5,VS6,VT1,VT2]):P:=e
def ZW{A:Prop}(a:A){W:Prop}(w:W){ok:Oks}{ρ:Nat->Option Row}{d f:Nat}{args:List AV}{rs:List Nat}{K:AV->List (Nat×Row)->Prop}{res:AV}{outs:List (Nat×Row)}
 (e:A->W->ok.m f (args.map (AV.rg (cnm rs))) (rs.map (gQ ρ rs)) res outs:=by intro a w;simp only[VS1,VS2,VS3,VS4,VS5,VS6,VT1,VT2,bC,bB,decide_true,decide_false,B0,A8,du,dr,dq,ne_eq,not_false_eq_true,B1,B2,true_and,false_and,A5,A6,↓reduceIte,reduceCtorEq,A2,A7,A3,B3,a];first|exact w|(simp only[VS1,VS2,VS3,VS4,VS5,VS6,VT1,VT2,bC,bB,decide_true,decide_false,B0,A8,du,dr,dq,ne_eq,not_false_eq_true,B1,B2,true_and,false_and,A5,A6,↓reduceIte,reduceCtorEq,A2,A7,A3,B3,a] at w;exact w))
 (h1:rs.Nodup/\(∀r∈rs,cH (ρ r))/\(∀r∈rs,∀q∈lR (ρ r),q∈rs)/\(∀r∈aP args,r∈rs):=by simp[VS1,VS2,VS3,VS4,VS5,VS6,VT1,VT2])
 (h2:(outs.map fun p=>bkn d rs p.1).Nodup/\(∀p∈outs,1000000000<=p.1->p.1-1000000000<rs.length)/\(∀p∈outs,p.1<1000000000->ρ (bkn d rs p.1)=none/\bkn d rs p.1<1000000000))
 (hk:K (res.rg (bkn d rs)) (ck rs++outs.map (dA d rs))):callM ok ρ d f args rs K:=kn (e a w) h1 h2 hk
def S_c(a:List ByteArray)(v:Int×Int):St:=⟨[(0,.lst .o 1 (a.map AV.z)),(1,.i v.1),(5,.i v.2)],[]⟩
def md(v:Int):St:=⟨[(1,.i v)],[]⟩
def NmK(ns ks:List Nat)(P:Prop):Prop:=P
def nmK{ns ks:List Nat}{P:Prop}(p:P):NmK ns ks P:=p
def ZSG{A:Prop}(a:A){W:Prop}(w:W){ok:Oks}{ρ:Nat->Option Row}{d f:Nat}{args:List AV}{K:AV->List (Nat×Row)->Prop}{v:Value}{Q:Prop}(k:Q)
 (e:A->W->ok.p f (args.map (snp ρ 4)) (.sc v):=by intro a w;simp only[VS1,VS2,VS3,VS4,VS5,VS6,VT1,VT2,bC,bB,decide_true,decide_false,B0,A8,du,dr,dq,ne_eq,not_false_eq_true,B1,B2,true_and,false_and,A5,A6,↓reduceIte,reduceCtorEq,A2,A7,A3,B3,a];exact w) (g:K (.sc v) []=Q:=by simp only[VA,VF1,↓reduceIte,A2,A7,A6,A5,A3];exact Eq.refl _):gE ok ρ d f args K:=Ny (e a w) (g.mpr k)
def ZUG{A:Prop}(a:A){W:Prop}(w:W){ok:Oks}{ρ:Nat->Option Row}{d f:Nat}{args:List AV}{K:AV->List (Nat×Row)->Prop}{res:AV}{Q:Prop}(k:Q)
 (e:A->W->ok.p f (args.map (snp ρ 4)) res:=by intro a w;simp only[VS1,VS2,VS3,VS4,VS5,VS6,VT1,VT2,bC,bB,decide_true,decide_false,B0,A8,du,dr,dq,ne_eq,not_false_eq_true,B1,B2,true_and,false_and,A5,A6,↓reduceIte,reduceCtorEq,A2,A7,A3,B3,a];exact w) (hu:res.allU:=by simp[AV.allU,kw,tW,VT1,VT2]) (hn:∀p∈(adopt 4 d res).2.1,ρ p.1=none/\p.1<1000000000:=by simp only[VS1,VS2,VS3,VS4,VS5,VS6,VT1,VT2,bC,bB,decide_true,decide_false,B0,A8,du,dr,dq,ne_eq,not_false_eq_true,B1,B2,true_and,false_and,A5,A6,↓reduceIte,reduceCtorEq,A2,A7,A3,B3,C3]) (g:K (adopt 4 d res).1 (adopt 4 d res).2.1=Q:=by simp only[VA,VF1,↓reduceIte,A2,A7,A6,A5,A3];exact Eq.refl _):gE ok ρ d f args K:=Qo (e a w) hu hn (g.mpr k)
def NM1{ρ:Nat->Option Row}{d:Nat}{rs:List Nat}{outs:List (Nat×Row)}{ns ks:List Nat}(hn:outs.map (·.1)=ns)(h:YH rs ns=true):
 NmK ns ks ((outs.map fun p=>bkn d rs p.1).Nodup/\(∀p∈outs,1000000000<=p.1->p.1-1000000000<rs.length)/\(∀p∈outs,p.1<1000000000->ρ (bkn d rs p.1)=none/\bkn d rs p.1<1000000000)):=zC ns hn h
def NM2{ρ:Nat->Option Row}{d:Nat}{rs:List Nat}{outs:List (Nat×Row)}{ns ks:List Nat}(hn:outs.map (·.1)=ns)(h:Pg d rs ns ks=true)(hk:∀q∈ks,ρ q=none):
 NmK ns ks ((outs.map fun p=>bkn d rs p.1).Nodup/\(∀p∈outs,1000000000<=p.1->p.1-1000000000<rs.length)/\(∀p∈outs,p.1<1000000000->ρ (bkn d rs p.1)=none/\bkn d rs p.1<1000000000)):=vK ns ks hn h hk
def ZWG{A:Prop}(a:A){W:Prop}(w:W)(ns ks:List Nat){Q:Prop}(k:Q){ok:Oks}{ρ:Nat->Option Row}{d f:Nat}{args:List AV}{rs:List Nat}{K:AV->List (Nat×Row)->Prop}{res:AV}{outs:List (Nat×Row)}
 (e:A->W->ok.m f (args.map (AV.rg (cnm rs))) (rs.map (gQ ρ rs)) res outs:=by intro a w;simp only[VS1,VS2,VS3,VS4,VS5,VS6,VT1,VT2,bC,bB,decide_true,decide_false,B0,A8,du,dr,dq,ne_eq,not_false_eq_true,B1,B2,true_and,false_and,A5,A6,↓reduceIte,reduceCtorEq,A2,A7,A3,B3,a];first|exact w|(simp only[VS1,VS2,VS3,VS4,VS5,VS6,VT1,VT2,bC,bB,decide_true,decide_false,B0,A8,du,dr,dq,ne_eq,not_false_eq_true,B1,B2,true_and,false_and,A5,A6,↓reduceIte,reduceCtorEq,A2,A7,A3,B3,a] at w;exact w))
 (h1:rs.Nodup/\(∀r∈rs,cH (ρ r))/\(∀r∈rs,∀q∈lR (ρ r),q∈rs)/\(∀r∈aP args,r∈rs):=by simp[VS1,VS2,VS3,VS4,VS5,VS6,VT1,VT2])
 (h2:NmK ns ks ((outs.map fun p=>bkn d rs p.1).Nodup/\(∀p∈outs,1000000000<=p.1->p.1-1000000000<rs.length)/\(∀p∈outs,p.1<1000000000->ρ (bkn d rs p.1)=none/\bkn d rs p.1<1000000000)):=by first|exact NM1 rfl (by decide+kernel)|exact NM2 rfl (by decide+kernel) ZQ|exact nmK ZQ)
 (g:K (res.rg (bkn d rs)) (ck rs++outs.map (dA d rs))=Q:=by simp only[VA,VF1,↓reduceIte,A2,A7,A6,A5,A3];exact Eq.refl _):callM ok ρ d f args rs K:=kn (e a w) h1 h2 (g.mpr k)
class CW {R:Type} (m:Option R) (C:outParam (R->Prop)):Prop where w:∀r,m=some r->C r
class CL {S B:Type} (f:S->Option (S⊕B)) (A:outParam ar) (lv lr:outParam (List Nat)) (sh:outParam (S->St)) (q:outParam (B->Ex->St->Prop)):Prop where
 w:∀s o,f s=some o->AWP (OkS A1) A (qL lv lr sh q o) (sh s)
class CX {S B:Type} (f:S->Option (S⊕B)) (A:outParam ar) (lv lr:outParam (List Nat)) (X:outParam Type) (sh:outParam (X->S->St)) (q:outParam (X->B->Ex->St->Prop)):Prop where
 w:∀x s o,f s=some o->AWP (OkS A1) A (qL lv lr (sh x) (q x) o) (sh x s)
def aen{F:Prop}{α:Type}{c:Bool}{x y z:α}(f:F)(h:cond c x y=z):((F/\c=true)/\x=z)\/((F/\c=false)/\y=z):=(aw h).imp (fun a=>⟨⟨f,a.1⟩,a.2⟩) (fun a=>⟨⟨f,a.1⟩,a.2⟩)
def afs{F:Prop}{α β:Type}{c:Bool}{x y:Option α}{k:α->Option β}{z:Option β}(f:F)(h:(cond c x y).bind k=z):((F/\c=true)/\x.bind k=z)\/((F/\c=false)/\y.bind k=z):=by
 cases c
 ·exact .inr ⟨⟨f,rfl⟩,h⟩
 ·exact .inl ⟨⟨f,rfl⟩,h⟩
def agc{α β:Type}{a:α}{k:α->Option β}{z:Option β}(h:(some a).bind k=z):k a=z:=h
def agl{α β γ:Type}{m:Option α}{k:α->Option β}{l:β->Option γ}{z:Option γ}(h:(m.bind k).bind l=z):m.bind (fun x=>(k x).bind l)=z:=by rw[<-Option.bind_assoc];exact h
def afy{α β:Type}{a:α}{k:α->Option β}{z:Option β}(h:bnd a k=z):k a=z:=h
def aeu{F:Prop}{α β:Type}{xs:List α}{o n:Nat}{k:List α->Option β}{r:β}(f:F)(h:bnd (gw xs o n) k=some r):∃l,(F/\∀e:α->AV,sub (xs.map e) o n=l.map e)/\k l=some r:=⟨_,⟨f,fun e=>dH ..⟩,h⟩
def afi{p:Prop}[Decidable p]{β:Type}{k:Unit->Option β}{r:β}(h:(grd p).bind k=some r):p/\k ()=some r:=
 let⟨_,a,b⟩:=ah h;⟨ba a,b⟩
def agq{F p:Prop}[Decidable p]{β:Type}{k:Unit->Option β}{r:β}(f:F)(h:(grd p).bind k=some r):(F/\p)/\k ()=some r:=
 let⟨_,a,b⟩:=ah h;⟨⟨f,ba a⟩,b⟩
def agw{F:Prop}{α β:Type}{xs:List α}{i:Nat}{k:α->Option β}{r:β}(f:F)(h:(xs[i]?).bind k=some r):∃x,(F/\xs[i]?=some x)/\k x=some r:=
 let⟨x,a,b⟩:=ah h;⟨x,⟨f,a⟩,b⟩
def agm{F:Prop}{α β:Type}{xs:List α}{i:Int}{k:α->Option β}{r:β}(f:F)(h:(bE xs i).bind k=some r):∃x,(F/\0<=i/\xs[i.toNat]?=some x)/\k x=some r:=
 let⟨x,a,b⟩:=ah h;⟨x,⟨f,bc a⟩,b⟩
def agi{F:Prop}{β:Type}{xs:ByteArray}{i:Int}{k:UInt8->Option β}{r:β}(f:F)(h:(wn xs i).bind k=some r):∃x,(F/\0<=i/\xs[i.toNat]?=some x)/\k x=some r:=
 let⟨x,a,b⟩:=ah h;⟨x,⟨f,aan a⟩,b⟩
def afh{F:Prop}{α β:Type}{xs:List α}{hi:Int}{k:List α->Option β}{r:β}(f:F)(h:(slT xs hi).bind k=some r):∃ys,(F/\0<=hi/\hi.toNat<=xs.length/\∀e:α->AV,sub (xs.map e) 0 hi.toNat=ys.map e)/\k ys=some r:=
 let⟨x,a,b⟩:=ah h;let q:=Ed (fun _=>AV.top) a;⟨x,⟨f,q.2.1,q.2.2.2.1,fun e=>(Ed e a).2.2.2.2⟩,b⟩
def aep{α β:Type}{m:Option α}{C:α->Prop}[CW m C]{k:α->Option β}{r:β}(h:m.bind k=some r):∃x,C x/\k x=some r:=
 let⟨x,a,b⟩:=ah h;⟨x,CW.w x a,b⟩
def afb{α:Type}{x y z:α}(h:cond true x y=z):x=z:=h
def afn{α:Type}{x y z:α}(h:cond false x y=z):y=z:=h
def agd{α:Type}{x y z:α}(h:cond (!true) x y=z):y=z:=h
def agp{α:Type}{x y z:α}(h:cond (!false) x y=z):x=z:=h
def jn(ok:Oks)(lv lr:List Nat)(b:ar)(Q:Ex->St->Prop):Ex->St->Prop
 | .nrm,τ=>τ.resOk lv lr/\AWP ok b Q (τ.res lv lr)
 | .ex i,τ=>Q (.ex i) τ
 | .ret,τ=>Q .ret τ
def ZJ:(∀(ok:Oks)(Q:Ex->St->Prop)(σ:St)(a:ar)(lv lr:List Nat)(b:ar),AWP ok (.seqr a lv lr b) Q σ=AWP ok a (jn ok lv lr b Q) σ)/\
 (∀(ok:Oks)(lv lr:List Nat)(b:ar)(Q:Ex->St->Prop)(τ:St),jn ok lv lr b Q .nrm τ=(τ.resOk lv lr/\AWP ok b Q (τ.res lv lr)))/\
 (∀(ok:Oks)(lv lr:List Nat)(b:ar)(Q:Ex->St->Prop)(i:Nat)(τ:St),jn ok lv lr b Q (.ex i) τ=Q (.ex i) τ)/\
 (∀(ok:Oks)(lv lr:List Nat)(b:ar)(Q:Ex->St->Prop)(τ:St),jn ok lv lr b Q .ret τ=Q .ret τ):=
 ⟨fun ok Q σ a lv lr b=>by
  simp only[AWP];congr 1;funext e τ;cases e<;>rfl,fun _ _ _ _ _ _=>rfl,fun _ _ _ _ _ _ _=>rfl,fun _ _ _ _ _ _=>rfl⟩
def ZJB:=A0 ZJ<|A0 @A4.{0,0}<|A0 @C0.{0,0}<|A0 @B7.{0,0}<|A0 @List.map_cons.{0,0}<|A0 @List.map_nil.{0,0}<|A0 @B9.{0}<|A0 @C2.{0}<|A0 @B5.{0}<|A0 @C1.{0} @B8.{0}
def afl{S B:Type}{f:S->Option (S⊕B)}{A C:ar}{lv lr lv' lr':List Nat}{sh:S->St}{sh':B->St}{id n:Nat}[CL f A lv lr sh (qX id lv' lr' sh')]{s0:S}{b:B}{σ:St}{Q:Ex->St->Prop}(g:aW f n s0=some b)
 (hs:Shp lv lr sh s0 σ) (k:AWP (OkS A1) C Q (sh' b)):AWP (OkS A1) (.loop A) (inb id (jn (OkS A1) lv' lr' C Q)) σ:=
 bQ _ (aJ CL.w g hs) fun e τ h=>by
  obtain⟨rfl,h1,h2⟩:=h;simp only[inb,if_true,jn];exact⟨h1,h2▸k⟩
def aff{S B R:Type}{f:S->Option (S⊕(B⊕R))}{A C:ar}{lv lr lv' lr':List Nat}{sh:S->St}{sh':B->St}{q:R->Ex->St->Prop}{id n:Nat}[CL f A lv lr sh (qS (qX id lv' lr' sh') q)]{s0:S}{b:B}{σ:St}{Q:Ex->St->Prop}(g:aW f n s0=some (.inl b))
 (hs:Shp lv lr sh s0 σ) (k:AWP (OkS A1) C Q (sh' b)):AWP (OkS A1) (.loop A) (inb id (jn (OkS A1) lv' lr' C Q)) σ:=
 bQ _ (aJ CL.w g hs) fun e τ h=>by
  obtain⟨rfl,h1,h2⟩:=h;simp only[inb,if_true,jn];exact⟨h1,h2▸k⟩
def afk{S B R:Type}{f:S->Option (S⊕(B⊕R))}{A:ar}{lv lr:List Nat}{sh:S->St}{q':B->Ex->St->Prop}{V:List RV}{emb:R->AV}{id n:Nat}[CL f A lv lr sh (qS q' (qR V emb))]{s0:S}{b:R}{σ:St}{Q:Ex->St->Prop}(g:aW f n s0=some (.inr b))
 (hs:Shp lv lr sh s0 σ) (k:∀τ,fin V (emb b) .ret τ->inb id Q .ret τ):AWP (OkS A1) (.loop A) (inb id Q) σ:=
 bQ _ (aJ CL.w g hs) fun e τ h=>by
  obtain⟨rfl,h⟩:=h;exact k τ h
def ago{S B X:Type}{f:S->Option (S⊕B)}{A C:ar}{lv lr lv' lr':List Nat}{sh:X->S->St}{sh':X->B->St}{id n:Nat}[CX f A lv lr X sh (fun x=>qX id lv' lr' (sh' x))]{x:X}{s0:S}{b:B}{σ:St}{Q:Ex->St->Prop}(g:aW f n s0=some b)
 (hs:Shp lv lr (sh x) s0 σ) (k:AWP (OkS A1) C Q (sh' x b)):AWP (OkS A1) (.loop A) (inb id (jn (OkS A1) lv' lr' C Q)) σ:=
 bQ _ (aJ (CX.w x) g hs) fun e τ h=>by
  obtain⟨rfl,h1,h2⟩:=h;simp only[inb,if_true,jn];exact⟨h1,h2▸k⟩
def afm{S B R X:Type}{f:S->Option (S⊕(B⊕R))}{A C:ar}{lv lr lv' lr':List Nat}{sh:X->S->St}{sh':X->B->St}{q:X->R->Ex->St->Prop}{id n:Nat}[CX f A lv lr X sh (fun x=>qS (qX id lv' lr' (sh' x)) (q x))]{x:X}{s0:S}{b:B}{σ:St}{Q:Ex->St->Prop}(g:aW f n s0=some (.inl b))
 (hs:Shp lv lr (sh x) s0 σ) (k:AWP (OkS A1) C Q (sh' x b)):AWP (OkS A1) (.loop A) (inb id (jn (OkS A1) lv' lr' C Q)) σ:=
 bQ _ (aJ (CX.w x) g hs) fun e τ h=>by
  obtain⟨rfl,h1,h2⟩:=h;simp only[inb,if_true,jn];exact⟨h1,h2▸k⟩
def afc{S B R X:Type}{f:S->Option (S⊕(B⊕R))}{A:ar}{lv lr:List Nat}{sh:X->S->St}{q':X->B->Ex->St->Prop}{V:List RV}{emb:X->R->AV}{id n:Nat}[CX f A lv lr X sh (fun x=>qS (q' x) (qR V (emb x)))]{x:X}{s0:S}{b:R}{σ:St}{Q:Ex->St->Prop}(g:aW f n s0=some (.inr b))
 (hs:Shp lv lr (sh x) s0 σ) (k:∀τ,fin V (emb x b) .ret τ->inb id Q .ret τ):AWP (OkS A1) (.loop A) (inb id Q) σ:=
 bQ _ (aJ (CX.w x) g hs) fun e τ h=>by
  obtain⟨rfl,h⟩:=h;exact k τ h
def ZWT{A:Prop}(a:A){W:Prop}(w:W){Q:Prop}(k:Q){ok:Oks}{ρ:Nat->Option Row}{d f:Nat}{args:List AV}{rs:List Nat}{K:AV->List (Nat×Row)->Prop}{res:AV}{outs:List (Nat×Row)}
 (e:A->W->ok.m f (args.map (AV.rg (cnm rs))) (rs.map (gQ ρ rs)) res outs:=by intro a w;simp only[VS1,VS2,VS3,VS4,VS5,VS6,VT1,VT2,bC,bB,decide_true,decide_false,B0,A8,du,dr,dq,ne_eq,not_false_eq_true,B1,B2,true_and,false_and,A5,A6,↓reduceIte,reduceCtorEq,A2,A7,A3,B3,a];first|exact w|(simp only[VS1,VS2,VS3,VS4,VS5,VS6,VT1,VT2,bC,bB,decide_true,decide_false,B0,A8,du,dr,dq,ne_eq,not_false_eq_true,B1,B2,true_and,false_and,A5,A6,↓reduceIte,reduceCtorEq,A2,A7,A3,B3,a] at w;exact w))
 (h1:rs.Nodup/\(∀r∈rs,cH (ρ r))/\(∀r∈rs,∀q∈lR (ρ r),q∈rs)/\(∀r∈aP args,r∈rs):=by simp[VS1,VS2,VS3,VS4,VS5,VS6,VT1,VT2])
 (h2:(outs.map fun p=>bkn d rs p.1).Nodup/\(∀p∈outs,1000000000<=p.1->p.1-1000000000<rs.length)/\(∀p∈outs,p.1<1000000000->ρ (bkn d rs p.1)=none/\bkn d rs p.1<1000000000):=by first|exact NM1 (ks:=[]) rfl (by decide+kernel)|exact ZQ)
 (g:K (res.rg (bkn d rs)) (ck rs++outs.map (dA d rs))=Q:=by simp only[VA,VF1,↓reduceIte,A2,A7,A6,A5,A3];exact Eq.refl _):callM ok ρ d f args rs K:=kn (e a w) h1 h2 (g.mpr k)
def ZT{F E:Prop}(f:F)(e:E){H:Prop}(h:H){P:Prop}(t:F->E->H->P:=by
 intro f e h
 repeat' (first
  |(with_reducible replace h:=agc h)
  |(with_reducible replace h:=agl h)
  |(with_reducible obtain⟨x,f,h⟩:=aeu f h)
  |(with_reducible replace h:=afy h)
  |(with_reducible replace h:=afb h)
  |(with_reducible replace h:=afn h)
  |(with_reducible replace h:=agd h)
  |(with_reducible replace h:=agp h)
  |(with_reducible obtain⟨f,h⟩|⟨f,h⟩:=aen f h)
  |(with_reducible obtain⟨f,h⟩|⟨f,h⟩:=afs f h)
  |((with_reducible obtain⟨q,h⟩:=afi h);(try simp only[B9,C1,B8,C2,B5,Nat.zero_add] at q);replace f:=ZA f q)
  |(with_reducible obtain⟨f,h⟩:=agq f h)
  |(with_reducible obtain⟨x,f,h⟩:=agw f h)
  |(with_reducible obtain⟨x,f,h⟩:=agm f h)
  |(with_reducible obtain⟨x,f,h⟩:=agi f h)
  |(with_reducible obtain⟨x,f,h⟩:=afh f h)
  |((with_reducible obtain⟨x,w,h⟩:=aep h);refine ZF f ?_;(repeat (refine⟨ZK trivial,?_⟩;(try simp only[ZC,e]);refine ZF f ?_));first|refine ZSG f w ?_|refine ZUG f w ?_|refine ZWT f w ?_)
  |(cases h;exact ZL f (ZA ZC e))
  |((with_reducible obtain⟨x,w,h⟩:=ah h);(try refine ZF f ?_);(repeat (refine⟨ZK trivial,?_⟩;(try simp only[ZC,e]);(try refine ZF f ?_)));first
   |((first|refine afl w (ZK e) ?_|refine ago (x:=by assumption) w (ZK e) ?_);simp only[ZC,e])
   |(rcases x with x|x;rotate_left;(first|refine afk w (ZK e) ?_|refine afc (x:=by assumption) w (ZK e) ?_);simp only[] at h;intro τ q;cases h;(first|exact q|(simp[inb,thn,jn];exact q));(first|refine aff w (ZK e) ?_|refine afm (x:=by assumption) w (ZK e) ?_);simp only[ZC,e];simp only[] at h)))):P:=t f e h
theorem ZO{R:Type}{m b:Option R}{r:R}{f k:Nat}{A:ar}{V:List RV}{args:List AV}{res:AV}{E F:Prop}(hm:aU A1 f k A V=true)(u:m=b)(f0:F)(e:E)(h:m=some r)(hl:args.length=k:=by rfl)
 (t:F->E->b=some r->VT (OkS A1) A V args res:=by intro f e h;simp only[ZC,e,aY];exact ZT f e h):Ok A1 f args res:=aL br hm hl (t f0 e (u.symm.trans h))
instance(b:List ByteArray):CL (M_c b) wc [0,1,5] [] (S_c b) (qS (qX 0 [1] [] (md)) (qR aO (fun r=>.i r))):=⟨fun d o h=>by
 unfold M_c at h;simp only[ZC,S_c,wc];exact ZT trivial (ZA @S_c.eq_1 (ZA @md.eq_1 (ZA @aO.eq_1 @wc.eq_1))) h⟩
instance(b:List ByteArray)(c:Int):CW (Ry b c) (fun(r:Int)=>Ok A1 103 [.lst .o 1 (b.map AV.z),.i c] (.i r)):=⟨fun r h=>ZO m103 (Ry.eq_1 _ _) ZJ (ZA @S_c.eq_1 (ZA @md.eq_1 (ZA @OZ.eq_1 (ZA @aO.eq_1 @A103.eq_1)))) h⟩
instance(b:List aG)(c:Int):CW (Qn b c) (fun(r:Int)=>Ok A1 104 [.lst .o 4 (b.map (aF .o)),.i c] (.i r)):=⟨fun r h=>ZO m104 (Qn.eq_1 _ _) trivial (ZA @aO.eq_1 @A104.eq_1) h⟩
instance(b:ae)(d:Int):CW (KK b d) (fun(r:Int)=>Ok A1 29 [(au .o b),.i d] (.i r)):=⟨fun r h=>ZO m29 (KK.eq_1 _ _) trivial (ZA @aO.eq_1 @A29.eq_1) h⟩
instance(b:List az)(c:Int):CW (NR b c) (fun(r:Int)=>Ok A1 43 [.lst .o 2 (b.map (aB .o)),.i c] (.i r)):=⟨fun r h=>by
 refine aL br m43 rfl ?_;unfold NR at h;simp only[ZC,A43,aO,aY];obtain⟨a,h⟩|⟨a,h⟩:=aw h
 ·cases h;exact ZL a @aO.eq_1
 ·cases h;exact ZL a @aO.eq_1⟩
instance(b:List Int)(c:Int):CW (Pp b c) (fun(r:Int)=>Ok A1 216 [.lst .o 1 (b.map AV.i),.i c] (.i r)):=⟨fun r h=>ZO m216 (Pp.eq_1 _ _) trivial (ZA @aO.eq_1 @A216.eq_1) h⟩
instance(a:ai)(c:Int):CW (IL a c) (fun(r:Int)=>Ok A1 172 [(ax .o a),.i c] (.i r)):=⟨fun r h=>ZO m172 (IL.eq_1 _ _) trivial (ZA @aO.eq_1 @A172.eq_1) h⟩
instance(a:af)(d:Int):CW (PP a d) (fun(r:Int)=>Ok A1 105 [(aj .o a),.i d] (.i r)):=⟨fun r h=>by
 refine aL br m105 rfl ?_;unfold PP at h;simp only[ZC,A105,aO,aY];obtain⟨k,g,h⟩:=ah h;refine ZF trivial ?_;refine ZSG trivial (CW.w _ g) ?_;obtain⟨b,h⟩|⟨b,h⟩:=aw h
 ·cases h;exact ZL b @aO.eq_1
 ·obtain⟨l,j,h⟩:=ah h;refine ZF b ?_;refine ZSG b (CW.w _ j) ?_;obtain⟨c,h⟩|⟨c,h⟩:=aw h
  ·cases h;exact ZL (ZA b c) @aO.eq_1
  ·cases h;exact ZL (ZA b c) @aO.eq_1⟩
def wj(a:List af)(v:Int×Int):St:=⟨[(0,.lst .o 10 (a.map (aj .o))),(1,.i v.1),(5,.i v.2)],[]⟩
instance(a:List af):CL (JM a) PF [0,1,5] [] (wj a) (qS (qX 0 [1] [] (md)) (qR aO (fun r=>.i r))):=⟨fun d o h=>by
 have e:=ZA @wj.eq_1 @md.eq_1;unfold JM at h;simp only[ZC,wj,PF];obtain⟨b,h⟩|⟨b,h⟩:=aw h
 ·obtain⟨k,g,h⟩:=ah h;obtain⟨l,j,h⟩:=ah h;have f:=ZA b (bc g);refine ZF f ?_;refine ZSG f (CW.w _ j) ?_;obtain⟨c,h⟩|⟨c,h⟩:=aw h
  ·cases h;exact ZL (ZA f c) @aO.eq_1
  ·cases h;exact ZL (ZA f c) e
 ·cases h;exact ZL b e⟩
instance(b:List af)(c:Int):CW (OU b c) (fun(r:Int)=>Ok A1 30 [.lst .o 10 (b.map (aj .o)),.i c] (.i r)):=⟨fun r h=>by
 refine aL br m30 rfl ?_;unfold OU at h;simp only[ZC,A30,aO,aY];obtain⟨a,h⟩|⟨a,h⟩:=aw h
 ·cases h;exact ZL a @aO.eq_1
 ·obtain⟨d,g,h⟩:=ah h;try refine ZF a ?_
  refine bW (o:=d) (co fM (aJ CL.w g ?_)) (fun k hv=>?_) (fun l hv e τ hne hq=>?_)
  ·exact ZK (ZA @wj.eq_1 @md.eq_1)
  ·subst hv;simp only[] at h;simp only[ZC,md,Yt];cases h;exact ZL a @aO.eq_1
  ·subst hv;simp only[] at h;obtain⟨rfl,j⟩:=hq;cases h;exact j⟩
def SK(a:List ByteArray)(v:Int×List ByteArray):St:=⟨[(0,.lst .o 1 (a.map AV.z)),(3,.sl 3 0 v.2.length),(4,.i v.1)],[(3,.arr 1 (v.2.map AV.z))]⟩
def QJ(v:List ByteArray):St:=⟨[(3,.sl 3 0 v.length)],[(3,.arr 1 (v.map AV.z))]⟩
instance(b:List ByteArray):CL (Ih b) vL [0,3,4] [3] (SK b) (qX 0 [3] [3] (QJ)):=⟨fun a o h=>by
 unfold Ih at h;simp only[ZC,SK,vL];exact ZT ZJB (ZA @SK.eq_1 (ZA @QJ.eq_1 @vL.eq_1)) h⟩
instance(a:List ByteArray):CW (RO a) (fun(r:List ByteArray)=>Ok A1 110 [.lst .o 1 (a.map AV.z)] (.lst .u 1 (r.map AV.z))):=⟨fun r h=>ZO m110 (RO.eq_1 _) ZJB (ZA @SK.eq_1 (ZA @QJ.eq_1 (ZA @Nu.eq_1 (ZA @bL.eq_1 @A110.eq_1)))) h⟩
instance(a:aG):CW (Jt a) (fun(r:aG)=>Ok A1 174 [(aF .o a)] (.agg [.i r.A,.i r.B,.i r.N,.i r.F])):=⟨fun r h=>ZO m174 (Jt.eq_1 _) trivial (ZA @QW.eq_1 @A174.eq_1) h⟩
def SL(a:List aG)(v:Int×List aG):St:=⟨[(0,.lst .o 4 (a.map (aF .o))),(3,.sl 3 0 v.2.length),(4,.i v.1)],[(3,.arr 4 (v.2.map (aF .u)))]⟩
def Nj(v:List aG):St:=⟨[(3,.sl 3 0 v.length)],[(3,.arr 4 (v.map (aF .u)))]⟩
instance(c:List aG):CL (Hc c) vV [0,3,4] [3] (SL c) (qX 0 [3] [3] (Nj)):=⟨fun a o h=>by
 unfold Hc at h;simp only[ZC,SL,vV];exact ZT ZJB (ZA @SL.eq_1 (ZA @Nj.eq_1 @vV.eq_1)) h⟩
instance(a:List aG):CW (Ot a) (fun(r:List aG)=>Ok A1 111 [.lst .o 4 (a.map (aF .o))] (.lst .u 4 (r.map (aF .u)))):=⟨fun r h=>ZO m111 (Ot.eq_1 _) ZJB (ZA @SL.eq_1 (ZA @Nj.eq_1 (ZA @KI.eq_1 (ZA @bL.eq_1 @A111.eq_1)))) h⟩
instance(a:ae):CW (xM a) (fun(r:ae)=>Ok A1 32 [(au .o a)] (.agg [.lst .u 1 (r.N.map AV.z),.lst .u 4 (r.F.map (aF .u))])):=⟨fun r h=>ZO m32 (xM.eq_1 _) trivial (ZA @V32.eq_1 @A32.eq_1) h⟩
instance(a:az):CW (HA a) (fun(r:az)=>Ok A1 123 [(aB .o a)] (.agg [.i r.N,.i r.F])):=⟨fun r h=>by
 refine aL br m123 rfl ?_;unfold HA at h;simp only[ZC,A123,V32,aY];cases h;exact ZL trivial @V32.eq_1⟩
def WJ(a:List az)(v:Int×List az):St:=⟨[(0,.lst .o 2 (a.map (aB .o))),(3,.sl 3 0 v.2.length),(4,.i v.1)],[(3,.arr 2 (v.2.map (aB .u)))]⟩
def EW(v:List az):St:=⟨[(3,.sl 3 0 v.length)],[(3,.arr 2 (v.map (aB .u)))]⟩
instance(b:List az):CL (FI b) NI [0,3,4] [3] (WJ b) (qX 0 [3] [3] (EW)):=⟨fun a o h=>by
 have e:=ZA @WJ.eq_1 @EW.eq_1;unfold FI at h;simp only[ZC,WJ,NI];obtain⟨c,h⟩|⟨c,h⟩:=aw h
 ·obtain⟨s,j,h⟩:=ah h;obtain⟨d,k,h⟩:=ah h;have f:=ZA c (bc j);refine ZF f ?_;refine ZUG f (CW.w _ k) ?_;obtain⟨t,l,h⟩:=ah h;obtain⟨v,m,h⟩:=ah h;obtain⟨p,g,h⟩:=bf h;have q:(a.2.map (aB .u)).set (B4 a.1) (.agg [.i d.N,.i d.F])=p.map (aB .u):=by rw[<-g,C0];rfl
  cases h;exact ZL (ZA f (ZA (ba l) (ZA m q))) (ZA e g.symm)
 ·cases h;exact ZL c e⟩
instance(a:List az):CW (zG a) (fun(r:List az)=>Ok A1 45 [.lst .o 2 (a.map (aB .o))] (.lst .u 2 (r.map (aB .u)))):=⟨fun r h=>by
 refine aL br m45 rfl ?_;unfold zG at h;simp only[ZC,A45,bL,aY];obtain⟨k,c,h⟩:=ah h;obtain⟨d,b,h⟩:=bf h;have g:B6 (B4 (a.length:Int)) (.agg [.i 0,.i 0]:AV)=d.map (aB .u):=by rw[<-b,B7];rfl
 obtain⟨l,j,h⟩:=ah h;have f:=ZA (ba c) g;try refine ZF f ?_
 refine aD (bb (aJ CL.w j ?_)) ?_
 ·exact ZK (ZA @WJ.eq_1 (ZA @EW.eq_1 (ZA b.symm @Zr)))
 ·simp only[ZC,EW,XQ];cases h;exact ZL f @bL.eq_1⟩
def Sc(a:List Int)(v:Int×List Int):St:=⟨[(0,.lst .o 1 (a.map AV.i)),(3,.sl 3 0 v.2.length),(4,.i v.1)],[(3,.arr 1 (v.2.map AV.i))]⟩
def Rp(v:List Int):St:=⟨[(3,.sl 3 0 v.length)],[(3,.arr 1 (v.map AV.i))]⟩
instance(b:List Int):CL (Hp b) DG [0,3,4] [3] (Sc b) (qX 0 [3] [3] (Rp)):=⟨fun a o h=>by
 unfold Hp at h;simp only[ZC,Sc,DG];exact ZT ZJB (ZA @Sc.eq_1 (ZA @Rp.eq_1 @DG.eq_1)) h⟩
instance(a:List Int):CW (Qa a) (fun(r:List Int)=>Ok A1 34 [.lst .o 1 (a.map AV.i)] (.lst .u 1 (r.map AV.i))):=⟨fun r h=>ZO m34 (Qa.eq_1 _) ZJB (ZA @Sc.eq_1 (ZA @Rp.eq_1 (ZA @Xx.eq_1 (ZA @bL.eq_1 @A34.eq_1)))) h⟩
instance(a:ai):CW (Ht a) (fun(r:ai)=>Ok A1 175 [(ax .o a)] (.agg [.i r.N,.lst .u 1 (r.F.map AV.i)])):=⟨fun r h=>ZO m175 (Ht.eq_1 _) trivial (ZA @V32.eq_1 @A175.eq_1) h⟩
instance(a:aH):CW (GU a) (fun(r:aH)=>Ok A1 176 [(bD .o a)] (.agg [.i r.N,.i r.F])):=⟨fun r h=>ZO m176 (GU.eq_1 _) trivial (ZA @V32.eq_1 @A176.eq_1) h⟩
instance(a:af):CW (GV a) (fun(r:af)=>Ok A1 112 [(aj .o a)] (.agg [.i r.Id,.i r.W,.i r.N.N,.lst .u 1 (r.N.F.map AV.i),.i r.P.N,.i r.P.F,.i r.F.N,.lst .u 1 (r.F.F.map AV.i),.i r.L.N,.i r.L.F])):=⟨fun r h=>by
 refine aL br m112 rfl ?_;unfold GV at h;simp only[ZC,A112,Ic,aY];obtain⟨j,b,h⟩:=ah h;refine ZF trivial ?_;refine ZUG trivial (CW.w _ b) ?_;obtain⟨k,c,h⟩:=ah h;refine ZF trivial ?_;refine ZUG trivial (CW.w _ c) ?_;obtain⟨l,d,h⟩:=ah h;refine ZF trivial ?_;refine ZUG trivial (CW.w _ d) ?_;obtain⟨m,g,h⟩:=ah h;refine ZF trivial ?_;refine ZUG trivial (CW.w _ g) ?_;cases h;exact ZL trivial @Ic.eq_1⟩
def S_o(a:List af)(v:Int×List af):St:=⟨[(0,.lst .o 10 (a.map (aj .o))),(3,.sl 3 0 v.2.length),(4,.i v.1)],[(3,.arr 10 (v.2.map (aj .u)))]⟩
def AC(v:List af):St:=⟨[(3,.sl 3 0 v.length)],[(3,.arr 10 (v.map (aj .u)))]⟩
instance(c:List af):CL (M_o c) OD [0,3,4] [3] (S_o c) (qX 0 [3] [3] (AC)):=⟨fun b o h=>by
 have e:=ZA @S_o.eq_1 @AC.eq_1;unfold M_o at h;simp only[ZC,S_o,OD];obtain⟨d,h⟩|⟨d,h⟩:=aw h
 ·obtain⟨s,j,h⟩:=ah h;obtain⟨a,k,h⟩:=ah h;have f:=ZA d (bc j);refine ZF f ?_;refine ZUG f (CW.w _ k) ?_;obtain⟨t,l,h⟩:=ah h;obtain⟨v,m,h⟩:=ah h;obtain⟨p,g,h⟩:=bf h;have q:(b.2.map (aj .u)).set (B4 b.1) (.agg [.i a.Id,.i a.W,.i a.N.N,.lst .u 1 (a.N.F.map AV.i),.i a.P.N,.i a.P.F,.i a.F.N,.lst .u 1 (a.F.F.map AV.i),.i a.L.N,.i a.L.F])=p.map (aj .u):=by rw[<-g,C0];rfl
  cases h;exact ZL (ZA f (ZA (ba l) (ZA m q))) (ZA e g.symm)
 ·cases h;exact ZL d e⟩
instance(a:List af):CW (AE a) (fun(r:List af)=>Ok A1 33 [.lst .o 10 (a.map (aj .o))] (.lst .u 10 (r.map (aj .u)))):=⟨fun r h=>by
 refine aL br m33 rfl ?_;unfold AE at h;simp only[ZC,A33,bL,aY];obtain⟨k,c,h⟩:=ah h;obtain⟨d,b,h⟩:=bf h;have g:B6 (B4 (a.length:Int)) (.agg [.i 0,.i 0,.i 0,.lst .u 1 [],.i 0,.i 0,.i 0,.lst .u 1 [],.i 0,.i 0]:AV)=d.map (aj .u):=by rw[<-b,B7];rfl
 obtain⟨l,j,h⟩:=ah h;have f:=ZA (ba c) g;try refine ZF f ?_
 refine aD (bb (aJ CL.w j ?_)) ?_
 ·exact ZK (ZA @S_o.eq_1 (ZA @AC.eq_1 (ZA b.symm @Zr)))
 ·simp only[ZC,AC,Yc];cases h;exact ZL f @bL.eq_1⟩
instance(a:aM):CW (AR a) (fun(r:aM)=>Ok A1 46 [(aQ .o a)] (.agg [.i r.N,.i r.L,.i r.F,.i r.W])):=⟨fun r h=>by
 refine aL br m46 rfl ?_;unfold AR at h;simp only[ZC,A46,QW,aY];cases h;exact ZL trivial @QW.eq_1⟩
instance(c:Int)(d:Int)(g:Int):CW (M_f c d g) (fun(r:Bool)=>Ok A1 173 [.i c,.i d,.i g] (.b r)):=⟨fun r h=>ZO m173 (M_f.eq_1 _ _ _) trivial (ZA @dx.eq_1 @A173.eq_1) h⟩
instance(i:Int):CW (Qg i) (fun(r:Bool)=>Ok A1 226 [.sc (.int .u8 i)] (.b r)):=⟨fun r h=>ZO m226 (Qg.eq_1 _) trivial (ZA @aea.eq_1 (ZA @bL.eq_1 @aea.eq_1)) h⟩
def S_a(a:ByteArray)(v:Int):St:=⟨[(0,.z a),(3,.i v)],[]⟩
def ce(v:Unit):St:=⟨[],[]⟩
instance(a:ByteArray):CL (M_a a) vt [0,3] [] (S_a a) (qS (qX 0 [] [] (ce)) (qR bL (fun r=>.b r))):=⟨fun g o h=>by
 unfold M_a at h;simp only[ZC,S_a,vt];exact ZT trivial (ZA @S_a.eq_1 (ZA @ce.eq_1 (ZA @bL.eq_1 @vt.eq_1))) h⟩
instance(a:ByteArray):CW (QV a) (fun(r:Bool)=>Ok A1 194 [.z a] (.b r)):=⟨fun r h=>ZO m194 (QV.eq_1 _) ZJ (ZA @S_a.eq_1 (ZA @ce.eq_1 (ZA @LV.eq_1 (ZA @OP.eq_1 (ZA @bL.eq_1 @A194.eq_1))))) h⟩
def Uc(a:List ByteArray)(b:ByteArray)(v:Int):St:=⟨[(0,.lst .o 1 (a.map AV.z)),(1,.z b),(5,.i v)],[]⟩
instance(b:List ByteArray)(c:ByteArray):CL (GN b c) vE [0,1,5] [] (Uc b c) (qS (qX 0 [] [] (ce)) (qR aO (fun r=>.i r))):=⟨fun g o h=>by
 unfold GN at h;simp only[ZC,Uc,vE];exact ZT trivial (ZA @Uc.eq_1 (ZA @ce.eq_1 (ZA @aO.eq_1 @vE.eq_1))) h⟩
instance(a:List ByteArray)(b:ByteArray):CW (RN a b) (fun(r:Int)=>Ok A1 195 [.lst .o 1 (a.map AV.z),.z b] (.i r)):=⟨fun r h=>ZO m195 (RN.eq_1 _ _) ZJ (ZA @Uc.eq_1 (ZA @ce.eq_1 (ZA @Oj.eq_1 (ZA @aO.eq_1 @A195.eq_1)))) h⟩
instance(c:aG)(j:Int):CW (MY c j) (fun(r:Bool)=>Ok A1 196 [(aF .o c),.i j] (.b r)):=⟨fun r h=>ZO m196 (MY.eq_1 _ _) trivial (ZA @YA.eq_1 (ZA @aO.eq_1 @YA.eq_1)) h⟩
instance(a:aG)(b:aG):CW (NL a b) (fun(r:Int)=>Ok A1 197 [(aF .o a),(aF .o b)] (.i r)):=⟨fun r h=>ZO m197 (NL.eq_1 _ _) trivial (ZA @Zq.eq_1 (ZA @aO.eq_1 @Zq.eq_1)) h⟩
def S_q(a:ae)(v:Int):St:=⟨[(1,.pt 1 0 0),(3,.i v)],[(1,.var (au .o a))]⟩
def yN(a:ae)(v:Unit):St:=⟨[(1,.pt 1 0 0)],[(1,.var (au .o a))]⟩
instance(a:ae):CL (M_q a) wK [1,3] [1] (S_q a) (qS (qX 0 [1] [1] (yN a)) (qR bL (fun r=>.b r))):=⟨fun d o h=>by
 unfold M_q at h;simp only[ZC,S_q,wK];exact ZT ZJ (ZA @S_q.eq_1 (ZA @yN.eq_1 (ZA @bL.eq_1 (ZA @wK.eq_1 @OI.eq_1)))) h⟩
def Vc(a:ae)(v:Int):St:=⟨[(1,.pt 1 0 0),(4,.i v)],[(1,.var (au .o a))]⟩
instance(c:ae):CL (GY c) vw [1,4] [1] (Vc c) (qS (qX 2 [] [] (ce)) (qR bL (fun r=>.b r))):=⟨fun g o h=>by
 unfold GY at h;simp only[ZC,Vc,vw];exact ZT ZJ (ZA @Vc.eq_1 (ZA @ce.eq_1 (ZA @bL.eq_1 (ZA @vw.eq_1 @Ou.eq_1)))) h⟩
instance(a:ae):CW (yx a) (fun(r:Bool)=>Ok A1 131 [(au .o a)] (.b r)):=⟨fun r h=>ZO m131 (yx.eq_1 _) ZJ (ZA @S_q.eq_1 (ZA @yN.eq_1 (ZA @Vc.eq_1 (ZA @ce.eq_1 (ZA @Nv.eq_1 (ZA @Om.eq_1 (ZA @MJ.eq_1 (ZA @bL.eq_1 @A131.eq_1)))))))) h⟩
instance(b:ae)(g:Int)(j:Int):CW (Bo b g j) (fun(r:Int)=>Ok A1 233 [(au .o b),.i g,.i j] (.i r)):=⟨fun r h=>ZO m233 (Bo.eq_1 _ _ _) trivial (ZA @dx.eq_1 @A233.eq_1) h⟩
def Ui(a:List Int)(b:Int)(v:Int):St:=⟨[(0,.lst .o 1 (a.map AV.i)),(1,.i b),(5,.i v)],[]⟩
instance(c:List Int)(d:Int):CL (GH c d) Dw [0,1,5] [] (Ui c d) (qS (qX 0 [] [] (ce)) (qR aO (fun r=>.b r))):=⟨fun i o h=>by
 unfold GH at h;simp only[ZC,Ui,Dw];exact ZT trivial (ZA @Ui.eq_1 (ZA @ce.eq_1 (ZA @aO.eq_1 @Dw.eq_1))) h⟩
instance(a:List Int)(c:Int):CW (wO a c) (fun(r:Bool)=>Ok A1 74 [.lst .o 1 (a.map AV.i),.i c] (.b r)):=⟨fun r h=>ZO m74 (wO.eq_1 _ _) ZJ (ZA @Ui.eq_1 (ZA @ce.eq_1 (ZA @Xu.eq_1 (ZA @aO.eq_1 @A74.eq_1)))) h⟩
def S_z(a:ae)(b:ai)(v:Int×List Int):St:=⟨[(2,.pt 2 0 0),(3,.pt 3 0 0),(6,.sl 6 0 v.2.length),(7,.i v.1)],[(2,.var (au .o a)),(3,.var (ax .o b)),(6,.arr 1 (v.2.map AV.i))]⟩
def HB(v:List Int):St:=⟨[(6,.sl 6 0 v.length)],[(6,.arr 1 (v.map AV.i))]⟩
instance(c:ae)(d:ai):CL (M_z c d) BM [2,3,6,7] [2,3,6] (S_z c d) (qS (qX 0 [6] [6] (HB)) (qR nD (fun r=>.tup [.lst .u 1 (r.1.map AV.i),.b r.2]))):=⟨fun a o h=>by
 unfold M_z at h;simp only[ZC,S_z,BM];exact ZT ZJB (ZA @nD.eq_1 (ZA @S_z.eq_1 (ZA @HB.eq_1 @MS.eq_1))) h⟩
instance(c:ae)(a:ai):CW (JK c a) (fun(r:List Int×Bool)=>Ok A1 227 [(au .o c),(ax .o a)] (.tup [.lst .u 1 (r.1.map AV.i),.b r.2])):=⟨fun r h=>ZO m227 (JK.eq_1 _ _) ZJB (ZA @S_z.eq_1 (ZA @HB.eq_1 (ZA @Qc.eq_1 (ZA @PZ.eq_1 (ZA @nD.eq_1 @A227.eq_1))))) h⟩
instance(c:ae)(d:ai):CW (CB c d) (fun(r:Bool)=>Ok A1 198 [(au .o c),(ax .o d)] (.b r)):=⟨fun r h=>ZO m198 (CB.eq_1 _ _) trivial (ZA @aO.eq_1 @A198.eq_1) h⟩
instance(c:aH):CW (FW c) (fun(r:Bool)=>Ok A1 199 [(bD .o c)] (.b r)):=⟨fun r h=>ZO m199 (FW.eq_1 _) trivial (ZA @bL.eq_1 @A199.eq_1) h⟩
instance(a:ae)(b:ai):CW (VB a b) (fun(r:List Int)=>Ok A1 228 [(au .o a),(ax .o b)] (.lst .u 1 (r.map AV.i))):=⟨fun r h=>ZO m228 (VB.eq_1 _ _) trivial (ZA @aO.eq_1 @A228.eq_1) h⟩
instance(a:ae)(b:ai):CW (FD a b) (fun(r:Int)=>Ok A1 200 [(au .o a),(ax .o b)] (.i r)):=⟨fun r h=>ZO m200 (FD.eq_1 _ _) trivial (ZA @aO.eq_1 @A200.eq_1) h⟩
def S_e(a:ae)(b:Int)(v:Int×List Int):St:=⟨[(1,.i b),(2,.pt 2 0 0),(5,.sl 5 0 v.2.length),(6,.i v.1)],[(2,.var (au .o a)),(5,.arr 1 (v.2.map AV.i))]⟩
def pd(v:List Int):St:=⟨[(5,.sl 5 0 v.length)],[(5,.arr 1 (v.map AV.i))]⟩
instance(d:ae)(g:Int):CL (M_e d g) BB [1,2,5,6] [2,5] (S_e d g) (qX 0 [5] [5] (pd)):=⟨fun a o h=>by
 have e:=ZA @S_e.eq_1 @pd.eq_1;unfold M_e at h;simp only[ZC,S_e,BB];obtain⟨b,h⟩|⟨b,h⟩:=aw h
 ·obtain⟨y,m,h⟩:=ah h;obtain⟨z,p,h⟩:=ah h;obtain⟨j,h⟩|⟨j,h⟩:=aw h
  ·obtain⟨k,c,h⟩:=bf h;have v:Row.arr 1 [(.i a.1:AV)]=Row.arr 1 (k.map AV.i):=by rw[<-c];rfl
   have q:k.length=1:=by rw[<-c];rfl
   obtain⟨a1,w,h⟩:=ah h;have s:=ba w;obtain⟨t,l,h⟩:=bf h;have x:a.2.map AV.i++k.map AV.i=t.map AV.i:=by rw[<-l,A4]
   have u:a.2.length+1=t.length:=by simp[<-c,<-l]<;>omega
   rw[u] at s;cases h;exact ZL (ZA b (ZA (bc m) (ZA (bc p) (ZA j (ZA v (ZA q (ZA s (ZA x u)))))))) (ZA e (ZA c.symm (ZA l.symm q)))
  ·cases h;exact ZL (ZA b (ZA (bc m) (ZA (bc p) j))) e
 ·cases h;exact ZL b e⟩
instance(a:ae)(b:Int):CW (Be a b) (fun(r:List Int)=>Ok A1 192 [(au .o a),.i b] (.lst .u 1 (r.map AV.i))):=⟨fun r h=>by
 refine aL br m192 rfl ?_;unfold Be at h;simp only[ZC,A192,aO,aY];obtain⟨q,j,h⟩:=ah h;obtain⟨g,h⟩|⟨g,h⟩:=aw h
 ·obtain⟨c,d,h⟩:=bf h;have l:Row.arr 1 [(.i b:AV)]=Row.arr 1 (c.map AV.i):=by rw[<-d];rfl
  have k:c.length=1:=by rw[<-d];rfl
  have m:sub (c.map AV.i) 0 1=c.map AV.i:=nC _ (by simp[<-d]);cases h;exact ZL (ZA (bc j) (ZA g (ZA l (ZA k m)))) (ZA @aO.eq_1 (ZA d.symm k))
 ·obtain⟨s,p,h⟩:=ah h;have f:=ZA (bc j) g;try refine ZF f ?_
  refine aD (bb (aJ CL.w p ?_)) ?_
  ·exact ZK (ZA @S_e.eq_1 @pd.eq_1)
  ·simp only[ZC,pd,LS];cases h;exact ZL f @aO.eq_1⟩
def S_r(a:ae)(b:ai)(c:ai)(g:Int)(d:List Int)(v:Int):St:=⟨[(3,.pt 3 0 0),(4,.pt 4 0 0),(5,.pt 5 0 0),(7,.i g),(8,.sl 8 0 d.length),(9,.i v)],[(3,.var (au .o a)),(4,.var (ax .o b)),(5,.var (ax .o c)),(8,.arr 1 (d.map AV.i))]⟩
def WQ(a:ae)(b:ai)(c:ai)(d:Int)(v:Unit):St:=⟨[(3,.pt 3 0 0),(4,.pt 4 0 0),(5,.pt 5 0 0),(7,.i d)],[(3,.var (au .o a)),(4,.var (ax .o b)),(5,.var (ax .o c))]⟩
def w_r(c:ae)(d:ai)(a:ai)(g:Int)(i:List Int)(l:Int)(o:Int⊕(Unit⊕Bool))(h:M_r a i l=some o):AWP (OkS A1) Bq (qL [3,4,5,7,8,9] [3,4,5,8] (S_r c d a g i) (qS (qX 2 [3,4,5,7] [3,4,5] (WQ c d a g)) (qR dx (fun r=>.b r))) o) (S_r c d a g i l):=by
 have e:=ZA @S_r.eq_1 @WQ.eq_1;unfold M_r at h;simp only[ZC,S_r,Bq];obtain⟨j,h⟩|⟨j,h⟩:=aw h
 ·obtain⟨q,m,h⟩:=ah h;obtain⟨s,p,h⟩:=ah h;have f:=ZA j (bc m);refine ZF f ?_;refine ZSG f (CW.w _ p) ?_;obtain⟨k,h⟩|⟨k,h⟩:=aw h
  ·cases h;exact ZL (ZA f k) @dx.eq_1
  ·cases h;exact ZL (ZA f k) e
 ·cases h;exact ZL j e
def Se(a:ae)(b:ai)(c:ai)(v:Int):St:=⟨[(3,.pt 3 0 0),(4,.pt 4 0 0),(5,.pt 5 0 0),(7,.i v)],[(3,.var (au .o a)),(4,.var (ax .o b)),(5,.var (ax .o c))]⟩
instance(a:ae)(c:ai)(d:ai):CL (JB a c d) AM [3,4,5,7] [3,4,5] (Se a c d) (qS (qX 0 [] [] (ce)) (qR dx (fun r=>.b r))):=⟨fun g o h=>by
 have e:=ZA @Se.eq_1 @ce.eq_1;unfold JB at h;simp only[ZC,Se,AM];obtain⟨j,h⟩|⟨j,h⟩:=aw h
 ·obtain⟨u,w,h⟩:=ah h;try refine ZF j ?_
  refine bW (sh:=(fun v=>⟨[(3,.pt 3 0 0),(4,.pt 4 0 0),(5,.pt 5 0 0),(7,.i g)],[(3,.var (au .o a)),(4,.var (ax .o c)),(5,.var (ax .o d))]⟩)) (q:=(qR dx (fun r=>.b r))) (o:=u) ?_ (fun c1 hv=>?_) (fun d1 hv e τ hne hq=>?_)
  ·replace h:=w;obtain⟨g1,x,h⟩:=ah h;obtain⟨k,y,h⟩:=ah h;have f:=ZA j (bc x);refine ZF f ?_;refine ZUG f (CW.w _ y) ?_;obtain⟨l,m,h⟩:=ah h;try refine ZF f ?_
   first|refine nL (o:=l) (co fM (aJ (w_r a c d g k) m ?_)) (fun a1 hv τ p=>?_) (fun b1 hv e τ hne hq=>?_)|refine An (o:=l) fM (aJ (w_r a c d g k) m ?_) (fun a1 hv τ p=>?_) (fun b1 hv e τ hne hq=>?_)
   ·exact ZK (ZA @S_r.eq_1 @WQ.eq_1)
   ·subst hv;simp only[] at h;cases h;try refine ZF trivial ?_
    refine⟨rfl,Shp.sub p (by decide) (by decide) ?_⟩;exact ZK @WQ.eq_1
   ·subst hv;simp only[] at h;obtain⟨rfl,s⟩:=hq;cases h;try refine ZF trivial ?_
    first|exact⟨by simp,s⟩|exact⟨by simp,rfl,s⟩
  ·subst hv;simp only[] at h;simp only[ZC,LG];cases h;exact ZL j e
  ·subst hv;simp only[] at h;obtain⟨rfl,t⟩:=hq;cases h;try refine ZF trivial ?_
   first|exact⟨by simp,t⟩|exact⟨by simp,rfl,t⟩
 ·cases h;exact ZL j e⟩
instance(a:ae)(c:ai)(d:ai):CW (Aj a c d) (fun(r:Bool)=>Ok A1 185 [(au .o a),(ax .o c),(ax .o d)] (.b r)):=⟨fun r h=>by
 refine aL br m185 rfl ?_;unfold Aj at h;simp only[ZC,A185,dx,aY];obtain⟨g,j,h⟩:=ah h;try refine ZF trivial ?_
 refine bW (o:=g) (co fM (aJ CL.w j ?_)) (fun l hv=>?_) (fun m hv e τ hne hq=>?_)
 ·exact ZK (ZA @Se.eq_1 @ce.eq_1)
 ·subst hv;simp only[] at h;simp only[ZC,ce,MO];cases h;exact ZL trivial @dx.eq_1
 ·subst hv;simp only[] at h;obtain⟨rfl,k⟩:=hq;cases h;exact k⟩
instance(d:ae)(a:af):CW (Mz d a) (fun(r:Bool)=>Ok A1 132 [(au .o d),(aj .o a)] (.b r)):=⟨fun r h=>by
 have e:=@aO.eq_1;refine aL br m132 rfl ?_;unfold Mz at h;simp only[ZC,A132,aO,aY];obtain⟨x,y,h⟩:=ah h;try refine ZF trivial ?_
 refine aD (sh:=(fun v=>⟨[(2,.pt 2 0 0),(3,.pt 3 0 0),(27,.b v)],[(2,.var (au .o d)),(3,.var (aj .o a))]⟩)) (s:=x) ?_ ?_
 ·replace h:=y;obtain⟨q1,a1,h⟩:=ah h;refine ZF trivial ?_;refine ZSG trivial (CW.w _ a1) ?_;obtain⟨c,h⟩|⟨c,h⟩:=aw h
  ·cases h;exact ZL c trivial
  ·obtain⟨s1,b1,h⟩:=ah h;refine ZF c ?_;refine ZSG c (CW.w _ b1) ?_;obtain⟨l,h⟩|⟨l,h⟩:=aw h
   ·cases h;exact ZL (ZA c l) trivial
   ·obtain⟨t1,c1,h⟩:=ah h;have f:=ZA c l;refine ZF f ?_;refine ZSG f (CW.w _ c1) ?_;obtain⟨m,h⟩|⟨m,h⟩:=aw h
    ·cases h;exact ZL (ZA f m) trivial
    ·obtain⟨u1,d1,h⟩:=ah h;have f:=ZA f m;refine ZF f ?_;refine ZSG f (CW.w _ d1) ?_;cases h;exact ZL f trivial
 ·simp only[ZC,Qe];obtain⟨g,h⟩|⟨g,h⟩:=aw h
  ·cases h;exact ZL g e
  ·obtain⟨p,h⟩|⟨p,h⟩:=aw h
   ·obtain⟨g1,i1,h⟩:=ah h;have f:=ZA g p;try refine ZF f ?_
    refine aD (sh:=(fun v=>⟨[(4,.b v)],[]⟩)) (s:=g1) ?_ ?_
    ·replace h:=i1;obtain⟨j,h⟩|⟨j,h⟩:=aw h
     ·obtain⟨q,h⟩|⟨q,h⟩:=aw h
      ·cases h;exact ZL (ZA f (ZA j q)) trivial
      ·cases h;exact ZL (ZA f (ZA j q)) trivial
     ·cases h;exact ZL (ZA f j) trivial
    ·simp only[ZC,Pa];cases h;exact ZL f e
   ·obtain⟨v1,j1,h⟩:=ah h;have f:=ZA g p;refine ZF f ?_;refine ZSG f (CW.w _ j1) ?_;obtain⟨t,h⟩|⟨t,h⟩:=aw h
    ·obtain⟨w1,k1,h⟩:=ah h;have f:=ZA f t;refine ZF f ?_;refine ZSG f (CW.w _ k1) ?_;obtain⟨k,h⟩|⟨k,h⟩:=aw h
     ·obtain⟨u,h⟩|⟨u,h⟩:=aw h
      ·obtain⟨y1,l1,h⟩:=ah h;have f:=ZA f (ZA k u);refine ZF f ?_;refine ZSG f (CW.w _ l1) ?_;obtain⟨z1,m1,h⟩:=ah h;refine ZF f ?_;refine ZSG f (CW.w _ m1) ?_;obtain⟨w,h⟩|⟨w,h⟩:=aw h
       ·obtain⟨a2,p1,h⟩:=ah h;have f:=ZA f w;refine ZF f ?_;refine ZSG f (CW.w _ p1) ?_;cases h;exact ZL f e
       ·cases h;exact ZL (ZA f w) e
      ·cases h;exact ZL (ZA f (ZA k u)) e
     ·cases h;exact ZL (ZA f k) e
    ·cases h;exact ZL (ZA f t) e⟩
def UJ(a:ai)(b:List Int)(v:Int):St:=⟨[(1,.lst .o 1 (b.map AV.i)),(2,.pt 2 0 0),(5,.i v)],[(2,.var (ax .o a))]⟩
instance(a:ai)(c:List Int):CL (Ge a c) wu [1,2,5] [2] (UJ a c) (qS (qX 0 [] [] (ce)) (qR aO (fun r=>.b r))):=⟨fun i o h=>by
 unfold Ge at h;simp only[ZC,UJ,wu];exact ZT trivial (ZA @UJ.eq_1 (ZA @ce.eq_1 (ZA @aO.eq_1 @wu.eq_1))) h⟩
instance(a:ai)(c:List Int):CW (LN a c) (fun(r:Bool)=>Ok A1 144 [(ax .o a),.lst .o 1 (c.map AV.i)] (.b r)):=⟨fun r h=>ZO m144 (LN.eq_1 _ _) ZJ (ZA @UJ.eq_1 (ZA @ce.eq_1 (ZA @MR.eq_1 (ZA @aO.eq_1 @A144.eq_1)))) h⟩
instance(a:aH):CW (Jm a) (fun(r:Int)=>Ok A1 75 [(bD .o a)] (.i r)):=⟨fun r h=>ZO m75 (Jm.eq_1 _) trivial (ZA @bL.eq_1 @A75.eq_1) h⟩
instance(d:ai)(g:aH)(j:ai)(k:aH):CW (xG d g j k) (fun(r:Bool)=>Ok A1 145 [(ax .o d),(bD .o g),(ax .o j),(bD .o k)] (.b r)):=⟨fun r h=>by
 have e:=@vy.eq_1;refine aL br m145 rfl ?_;unfold xG at h;simp only[ZC,A145,vy,aY];obtain⟨s,m,h⟩:=ah h;refine ZF trivial ?_;refine ZSG trivial (CW.w _ m) ?_;obtain⟨a,h⟩|⟨a,h⟩:=aw h
 ·obtain⟨c,h⟩|⟨c,h⟩:=aw h
  ·obtain⟨l,h⟩|⟨l,h⟩:=aw h
   ·obtain⟨t,p,h⟩:=ah h;have f:=ZA a (ZA c l);refine ZF f ?_;refine ZSG f (CW.w _ p) ?_;obtain⟨u,q,h⟩:=ah h;refine ZF f ?_;refine ZSG f (CW.w _ q) ?_;cases h;exact ZL f e
   ·cases h;exact ZL (ZA a (ZA c l)) e
  ·cases h;exact ZL (ZA a c) e
 ·cases h;exact ZL a e⟩
instance(j:ae)(a:af)(c:af):CW (HX j a c) (fun(r:Bool)=>Ok A1 133 [(au .o j),(aj .o a),(aj .o c)] (.b r)):=⟨fun r h=>by
 refine aL br m133 rfl ?_;unfold HX at h;simp only[ZC,A133,dx,aY];obtain⟨q,t,h⟩:=ah h;try refine ZF trivial ?_
 refine aD (sh:=(fun v=>⟨[(3,.pt 3 0 0),(4,.pt 4 0 0),(5,.pt 5 0 0),(37,.b v)],[(3,.var (au .o j)),(4,.var (aj .o a)),(5,.var (aj .o c))]⟩)) (s:=q) ?_ ?_
 ·replace h:=t;obtain⟨d1,u,h⟩:=ah h;refine ZF trivial ?_;refine ZSG trivial (CW.w _ u) ?_;obtain⟨g,h⟩|⟨g,h⟩:=aw h
  ·cases h;exact ZL g trivial
  ·obtain⟨g1,w,h⟩:=ah h;refine ZF g ?_;refine ZSG g (CW.w _ w) ?_;obtain⟨l,h⟩|⟨l,h⟩:=aw h
   ·cases h;exact ZL (ZA g l) trivial
   ·obtain⟨i1,x,h⟩:=ah h;have f:=ZA g l;refine ZF f ?_;refine ZSG f (CW.w _ x) ?_;cases h;exact ZL f trivial
 ·simp only[ZC,Ln];obtain⟨d,h⟩|⟨d,h⟩:=aw h
  ·cases h;exact ZL d @dx.eq_1
  ·obtain⟨y,a1,h⟩:=ah h;try refine ZF d ?_
   refine aD (sh:=(fun v=>⟨[(4,.pt 4 0 0),(5,.pt 5 0 0),(53,.b v)],[(4,.var (aj .o a)),(5,.var (aj .o c))]⟩)) (s:=y) ?_ ?_
   ·replace h:=a1;obtain⟨k,h⟩|⟨k,h⟩:=aw h
    ·obtain⟨m,h⟩|⟨m,h⟩:=aw h
     ·obtain⟨j1,b1,h⟩:=ah h;have f:=ZA d (ZA k m);refine ZF f ?_;refine ZSG f (CW.w _ b1) ?_;cases h;exact ZL f trivial
     ·cases h;exact ZL (ZA d (ZA k m)) trivial
    ·cases h;exact ZL (ZA d k) trivial
   ·simp only[ZC,KZ];obtain⟨p,h⟩|⟨p,h⟩:=aw h
    ·cases h;exact ZL (ZA d p) @dx.eq_1
    ·obtain⟨k1,c1,h⟩:=ah h;have f:=ZA d p;refine ZF f ?_;refine ZSG f (CW.w _ c1) ?_;cases h;exact ZL f @dx.eq_1⟩
def WL(a:ae)(b:List af)(c:Int)(v:Int):St:=⟨[(1,.lst .o 10 (b.map (aj .o))),(2,.pt 2 0 0),(5,.i c),(6,.i v)],[(2,.var (au .o a))]⟩
def ES(a:ae)(b:List af)(c:Int)(v:Unit):St:=⟨[(1,.lst .o 10 (b.map (aj .o))),(2,.pt 2 0 0),(5,.i c)],[(2,.var (au .o a))]⟩
instance(a:ae)(c:List af)(d:Int):CL (CQ a c d) LD [1,2,5,6] [2] (WL a c d) (qS (qX 2 [1,2,5] [2] (ES a c d)) (qR aO (fun r=>.b r))):=⟨fun j o h=>by
 have e:=ZA @WL.eq_1 @ES.eq_1;unfold CQ at h;simp only[ZC,WL,LD];obtain⟨g,h⟩|⟨g,h⟩:=aw h
 ·obtain⟨p,k,h⟩:=ah h;obtain⟨q,l,h⟩:=ah h;obtain⟨s,m,h⟩:=ah h;have f:=ZA g (ZA (bc k) (bc l));refine ZF f ?_;refine ZSG f (CW.w _ m) ?_;obtain⟨i,h⟩|⟨i,h⟩:=aw h
  ·cases h;exact ZL (ZA f i) @aO.eq_1
  ·cases h;exact ZL (ZA f i) e
 ·cases h;exact ZL g e⟩
def UU(a:ae)(b:List af)(v:Int):St:=⟨[(1,.lst .o 10 (b.map (aj .o))),(2,.pt 2 0 0),(5,.i v)],[(2,.var (au .o a))]⟩
instance(a:ae)(d:List af):CL (Jk a d) Nk [1,2,5] [2] (UU a d) (qS (qX 0 [] [] (ce)) (qR aO (fun r=>.b r))):=⟨fun g o h=>by
 have e:=ZA @UU.eq_1 @ce.eq_1;unfold Jk at h;simp only[ZC,UU,Nk];obtain⟨c,h⟩|⟨c,h⟩:=aw h
 ·obtain⟨x,y,h⟩:=ah h;try refine ZF c ?_
  refine bW (sh:=(fun v=>⟨[(1,.lst .o 10 (d.map (aj .o))),(2,.pt 2 0 0),(5,.i g)],[(2,.var (au .o a))]⟩)) (q:=(qR aO (fun r=>.b r))) (o:=x) ?_ (fun k1 hv=>?_) (fun l1 hv e τ hne hq=>?_)
  ·replace h:=y;obtain⟨a1,b1,h⟩:=ah h;try refine ZF c ?_
   refine aD (sh:=(fun v=>⟨[(1,.lst .o 10 (d.map (aj .o))),(2,.pt 2 0 0),(5,.i g),(45,.b v)],[(2,.var (au .o a))]⟩)) (s:=a1) ?_ ?_
   ·replace h:=b1;obtain⟨m1,c1,h⟩:=ah h;obtain⟨p1,d1,h⟩:=ah h;have f:=ZA c (bc c1);refine ZF f ?_;refine ZSG f (CW.w _ d1) ?_;obtain⟨j,h⟩|⟨j,h⟩:=aw h
    ·cases h;exact ZL (ZA f j) trivial
    ·obtain⟨k,h⟩|⟨k,h⟩:=aw h
     ·obtain⟨q1,g1,h⟩:=ah h;cases h;exact ZL (ZA f (ZA j (ZA k (bc g1)))) trivial
     ·cases h;exact ZL (ZA f (ZA j k)) trivial
   ·simp only[ZC,Yk];obtain⟨l,h⟩|⟨l,h⟩:=aw h
    ·cases h;exact ZL (ZA c l) @aO.eq_1
    ·obtain⟨m,p,h⟩:=ah h;try refine ZF (ZA c l) ?_
     first|refine nL (o:=m) (co fM (aJ CL.w p ?_)) (fun i1 hv τ t=>?_) (fun j1 hv e τ hne hq=>?_)|refine An (o:=m) fM (aJ CL.w p ?_) (fun i1 hv τ t=>?_) (fun j1 hv e τ hne hq=>?_)
     ·exact ZK (ZA @WL.eq_1 @ES.eq_1)
     ·subst hv;simp only[] at h;cases h;try refine ZF trivial ?_
      refine⟨rfl,Shp.sub t (by decide) (by decide) ?_⟩;exact ZK @ES.eq_1
     ·subst hv;simp only[] at h;obtain⟨rfl,u⟩:=hq;cases h;try refine ZF trivial ?_
      first|exact⟨by simp,u⟩|exact⟨by simp,rfl,u⟩
  ·subst hv;simp only[] at h;simp only[ZC,XA];cases h;exact ZL c e
  ·subst hv;simp only[] at h;obtain⟨rfl,w⟩:=hq;cases h;try refine ZF trivial ?_
   first|exact⟨by simp,w⟩|exact⟨by simp,rfl,w⟩
 ·cases h;exact ZL c e⟩
instance(a:ae)(c:List af):CW (HK a c) (fun(r:Bool)=>Ok A1 88 [(au .o a),.lst .o 10 (c.map (aj .o))] (.b r)):=⟨fun r h=>by
 refine aL br m88 rfl ?_;unfold HK at h;simp only[ZC,A88,aO,aY];obtain⟨i,j,h⟩:=ah h;try refine ZF trivial ?_
 refine aD (sh:=(fun v=>⟨[(1,.lst .o 10 (c.map (aj .o))),(2,.pt 2 0 0),(14,.b v)],[(2,.var (au .o a))]⟩)) (s:=i) ?_ ?_
 ·replace h:=j;obtain⟨q,k,h⟩:=ah h;refine ZF trivial ?_;refine ZSG trivial (CW.w _ k) ?_;obtain⟨g,h⟩|⟨g,h⟩:=aw h
  ·cases h;exact ZL g trivial
  ·cases h;exact ZL g trivial
 ·simp only[ZC,XC];obtain⟨d,h⟩|⟨d,h⟩:=aw h
  ·cases h;exact ZL d @aO.eq_1
  ·obtain⟨l,m,h⟩:=ah h;try refine ZF d ?_
   refine bW (o:=l) (co fM (aJ CL.w m ?_)) (fun t hv=>?_) (fun u hv e τ hne hq=>?_)
   ·exact ZK (ZA @UU.eq_1 @ce.eq_1)
   ·subst hv;simp only[] at h;simp only[ZC,ce,Yi];cases h;exact ZL d @aO.eq_1
   ·subst hv;simp only[] at h;obtain⟨rfl,p⟩:=hq;cases h;exact p⟩
def S_i(a:List az)(v:Int):St:=⟨[(0,.lst .o 2 (a.map (aB .o))),(3,.i v)],[]⟩
def tG(a:List az)(v:Unit):St:=⟨[(0,.lst .o 2 (a.map (aB .o)))],[]⟩
instance(a:List az):CL (M_i a) Bt [0,3] [] (S_i a) (qS (qX 0 [0] [] (tG a)) (qR bL (fun r=>.b r))):=⟨fun g o h=>by
 have e:=ZA @S_i.eq_1 @tG.eq_1;unfold M_i at h;simp only[ZC,S_i,Bt];obtain⟨t,u,h⟩:=ah h;try refine ZF trivial ?_
 refine aD (sh:=(fun v=>⟨[(0,.lst .o 2 (a.map (aB .o))),(3,.i g),(11,.b v)],[]⟩)) (s:=t) ?_ ?_
 ·replace h:=u;obtain⟨k,h⟩|⟨k,h⟩:=aw h
  ·cases h;exact ZL k trivial
  ·cases h;exact ZL k trivial
 ·simp only[ZC,MP];obtain⟨c,h⟩|⟨c,h⟩:=aw h
  ·obtain⟨w,x,h⟩:=ah h;try refine ZF c ?_
   refine aD (sh:=(fun v=>⟨[(0,.lst .o 2 (a.map (aB .o))),(3,.i g),(61,.b v)],[]⟩)) (s:=w) ?_ ?_
   ·replace h:=x;obtain⟨b1,y,h⟩:=ah h;obtain⟨c1,z,h⟩:=ah h;have f:=ZA c (bc y);refine ZF f ?_;refine ZSG f (CW.w _ z) ?_;obtain⟨l,h⟩|⟨l,h⟩:=aw h
    ·cases h;exact ZL (ZA f l) trivial
    ·obtain⟨d1,a1,h⟩:=ah h;have f:=ZA f l;refine ZF f ?_;refine ZSG f (CW.w _ a1) ?_;obtain⟨d,h⟩|⟨d,h⟩:=aw h
     ·cases h;exact ZL (ZA f d) trivial
     ·obtain⟨j,h⟩|⟨j,h⟩:=aw h
      ·obtain⟨g1,q,h⟩:=ah h;obtain⟨m,h⟩|⟨m,h⟩:=aw h
       ·cases h;exact ZL (ZA f (ZA d (ZA j (ZA (bc q) m)))) trivial
       ·cases h;exact ZL (ZA f (ZA d (ZA j (ZA (bc q) m)))) trivial
      ·cases h;exact ZL (ZA f (ZA d j)) trivial
   ·simp only[ZC,KV];obtain⟨p,h⟩|⟨p,h⟩:=aw h
    ·cases h;exact ZL (ZA c p) @bL.eq_1
    ·cases h;exact ZL (ZA c p) e
  ·cases h;exact ZL c e⟩
instance(a:List az):CW (Gr a) (fun(r:Bool)=>Ok A1 182 [.lst .o 2 (a.map (aB .o))] (.b r)):=⟨fun r h=>by
 refine aL br m182 rfl ?_;unfold Gr at h;simp only[ZC,A182,bL,aY];obtain⟨c,d,h⟩:=ah h;try refine ZF trivial ?_
 refine bW (o:=c) (co fM (aJ CL.w d ?_)) (fun j hv=>?_) (fun k hv e τ hne hq=>?_)
 ·exact ZK (ZA @S_i.eq_1 @tG.eq_1)
 ·subst hv;simp only[] at h;simp only[ZC,tG,Mp];obtain⟨l,g,h⟩:=ah h;refine ZF trivial ?_;refine ZSG trivial (CW.w _ g) ?_;cases h;exact ZL trivial @bL.eq_1
 ·subst hv;simp only[] at h;obtain⟨rfl,i⟩:=hq;cases h;exact i⟩
instance(g:ae)(c:aM):CW (GK g c) (fun(r:Bool)=>Ok A1 183 [(au .o g),(aQ .o c)] (.b r)):=⟨fun r h=>by
 have e:=@aO.eq_1;refine aL br m183 rfl ?_;unfold GK at h;simp only[ZC,A183,aO,aY];obtain⟨s,l,h⟩:=ah h;refine ZF trivial ?_;refine ZSG trivial (CW.w _ l) ?_;obtain⟨a,h⟩|⟨a,h⟩:=aw h
 ·obtain⟨t,m,h⟩:=ah h;refine ZF a ?_;refine ZSG a (CW.w _ m) ?_;obtain⟨d,h⟩|⟨d,h⟩:=aw h
  ·obtain⟨j,h⟩|⟨j,h⟩:=aw h
   ·obtain⟨u,p,h⟩:=ah h;have f:=ZA a (ZA d j);refine ZF f ?_;refine ZSG f (CW.w _ p) ?_;obtain⟨k,h⟩|⟨k,h⟩:=aw h
    ·obtain⟨v,q,h⟩:=ah h;have f:=ZA f k;refine ZF f ?_;refine ZSG f (CW.w _ q) ?_;cases h;exact ZL f e
    ·cases h;exact ZL (ZA f k) e
   ·cases h;exact ZL (ZA a (ZA d j)) e
  ·cases h;exact ZL (ZA a d) e
 ·cases h;exact ZL a e⟩
def S_d(a:ae)(b:ai)(v:Int×Int):St:=⟨[(2,.pt 2 0 0),(3,.pt 3 0 0),(5,.i v.1),(6,.i v.2)],[(2,.var (au .o a)),(3,.var (ax .o b))]⟩
def nl(v:Int):St:=⟨[(5,.i v)],[]⟩
instance(a:ae)(b:ai):CL (M_d a b) Ew [2,3,5,6] [2,3] (S_d a b) (qX 0 [5] [] (nl)):=⟨fun d o h=>by
 unfold M_d at h;simp only[ZC,S_d,Ew];exact ZT trivial (ZA @S_d.eq_1 (ZA @nl.eq_1 @Ew.eq_1)) h⟩
instance(a:ae)(b:ai):CW (oi a b) (fun(r:Int)=>Ok A1 91 [(au .o a),(ax .o b)] (.i r)):=⟨fun r h=>ZO m91 (oi.eq_1 _ _) ZJ (ZA @S_d.eq_1 (ZA @nl.eq_1 (ZA @Ym.eq_1 (ZA @aO.eq_1 @A91.eq_1)))) h⟩
instance(c:Int):CW (yR c) (fun(r:Int)=>Ok A1 278 [.i c] (.i r)):=⟨fun r h=>ZO m278 (yR.eq_1 _) trivial (ZA @bL.eq_1 @A278.eq_1) h⟩
def TS(a:ai)(b:ai)(v:Int):St:=⟨[(4,.pt 4 0 0),(5,.pt 5 0 0),(9,.i v)],[(4,.var (ax .o a)),(5,.var (ax .o b))]⟩
def Me(a:ai)(b:ai)(v:Unit):St:=⟨[(4,.pt 4 0 0),(5,.pt 5 0 0)],[(4,.var (ax .o a)),(5,.var (ax .o b))]⟩
instance(a:ai)(b:ai):CL (Hl a b) vF [4,5,9] [4,5] (TS a b) (qS (qX 0 [4,5] [4,5] (Me a b)) (qR dx (fun r=>.i r))):=⟨fun g o h=>by
 unfold Hl at h;simp only[ZC,TS,vF];exact ZT trivial (ZA @TS.eq_1 (ZA @Me.eq_1 (ZA @dx.eq_1 @vF.eq_1))) h⟩
instance(d:ae)(b:ai)(c:ai):CW (HN d b c) (fun(r:Int)=>Ok A1 274 [(au .o d),(ax .o b),(ax .o c)] (.i r)):=⟨fun r h=>ZO m274 (HN.eq_1 _ _ _) ZJ (ZA @TS.eq_1 (ZA @Me.eq_1 (ZA @QY.eq_1 (ZA @dx.eq_1 @A274.eq_1)))) h⟩
instance(a:List Int):CW (pf a) (fun(r:List Int)=>Ok A1 107 [.lst .o 1 (a.map AV.i)] (.lst .u 1 (r.map AV.i))):=⟨fun r h=>ZO m107 (pf.eq_1 _) trivial (ZA @bL.eq_1 @A107.eq_1) h⟩
def Xf(a:List az)(b:Int)(v:Int×Int):St:=⟨[(0,.lst .o 2 (a.map (aB .o))),(1,.i b),(5,.i v.1),(6,.i v.2)],[]⟩
instance(b:List az)(c:Int):CL (Nl b c) Cj [0,1,5,6] [] (Xf b c) (qX 0 [5] [] (nl)):=⟨fun g o h=>by
 have e:=ZA @Xf.eq_1 @nl.eq_1;unfold Nl at h;simp only[ZC,Xf,Cj];obtain⟨a,h⟩|⟨a,h⟩:=aw h
 ·obtain⟨j,i,h⟩:=ah h;obtain⟨d,h⟩|⟨d,h⟩:=aw h
  ·cases h;exact ZL (ZA a (ZA (bc i) d)) e
  ·cases h;exact ZL (ZA a (ZA (bc i) d)) e
 ·cases h;exact ZL a e⟩
instance(a:List az)(b:Int):CW (QK a b) (fun(r:Int)=>Ok A1 165 [.lst .o 2 (a.map (aB .o)),.i b] (.i r)):=⟨fun r h=>by
 refine aL br m165 rfl ?_;unfold QK at h;simp only[ZC,A165,aO,aY];obtain⟨d,c,h⟩:=ah h;try refine ZF trivial ?_
 refine aD (bb (aJ CL.w c ?_)) ?_
 ·exact ZK (ZA @Xf.eq_1 @nl.eq_1)
 ·simp only[ZC,nl,Pv];cases h;exact ZL trivial @aO.eq_1⟩
instance(c:List az)(d:Int)(g:Int):CW (xe c d g) (fun(r:Int)=>Ok A1 90 [.lst .o 2 (c.map (aB .o)),.i d,.i g] (.i r)):=⟨fun r h=>by
 refine aL br m90 rfl ?_;unfold xe at h;simp only[ZC,A90,dx,aY];obtain⟨m,l,h⟩:=ah h;refine ZF trivial ?_;refine ZSG trivial (CW.w _ l) ?_;obtain⟨a,h⟩|⟨a,h⟩:=aw h
 ·cases h;exact ZL a @dx.eq_1
 ·obtain⟨p,j,h⟩:=ah h;obtain⟨q,k,h⟩:=ah h;obtain⟨b,h⟩|⟨b,h⟩:=aw h
  ·cases h;exact ZL (ZA a (ZA (bc j) (ZA (ba k) b))) @dx.eq_1
  ·cases h;exact ZL (ZA a (ZA (bc j) (ZA (ba k) b))) @dx.eq_1⟩
def Vy(a:List ai)(b:List Int)(v:Int×Int):St:=⟨[(0,.lst .o 2 (a.map (ax .o))),(1,.lst .o 1 (b.map AV.i)),(5,.i v.1),(6,.i v.2)],[]⟩
instance(c:List ai)(d:List Int):CL (Mc c d) AH [0,1,5,6] [] (Vy c d) (qX 0 [5] [] (nl)):=⟨fun g o h=>by
 have e:=ZA @Vy.eq_1 @nl.eq_1;unfold Mc at h;simp only[ZC,Vy,AH];obtain⟨a,h⟩|⟨a,h⟩:=aw h
 ·obtain⟨l,m,h⟩:=ah h;try refine ZF a ?_
  refine aD (sh:=(fun v=>⟨[(0,.lst .o 2 (c.map (ax .o))),(1,.lst .o 1 (d.map AV.i)),(5,.i g.1),(6,.i g.2),(39,.b v)],[]⟩)) (s:=l) ?_ ?_
  ·replace h:=m;obtain⟨j,h⟩|⟨j,h⟩:=aw h
   ·cases h;exact ZL (ZA a j) trivial
   ·obtain⟨w,p,h⟩:=ah h;obtain⟨x,q,h⟩:=ah h;obtain⟨y,t,h⟩:=ah h;obtain⟨z,u,h⟩:=ah h;cases h;exact ZL (ZA a (ZA j (ZA (bc p) (ZA (bc q) (ZA (bc t) (bc u)))))) trivial
  ·simp only[ZC,PR];obtain⟨k,h⟩|⟨k,h⟩:=aw h
   ·cases h;exact ZL (ZA a k) e
   ·cases h;exact ZL (ZA a k) e
 ·cases h;exact ZL a e⟩
instance(a:List ai)(b:List Int):CW (Qu a b) (fun(r:Int)=>Ok A1 164 [.lst .o 2 (a.map (ax .o)),.lst .o 1 (b.map AV.i)] (.i r)):=⟨fun r h=>by
 refine aL br m164 rfl ?_;unfold Qu at h;simp only[ZC,A164,aO,aY];obtain⟨d,c,h⟩:=ah h;try refine ZF trivial ?_
 refine aD (bb (aJ CL.w c ?_)) ?_
 ·exact ZK (ZA @Vy.eq_1 @nl.eq_1)
 ·simp only[ZC,nl,Mw];cases h;exact ZL trivial @aO.eq_1⟩
def Sd(a:ae)(b:List ai)(c:List Int)(d:Int×Int×Int×Int)(v:Int×Int×Int×Int):St:=⟨[(1,.lst .o 2 (b.map (ax .o))),(2,.lst .o 1 (c.map AV.i)),(3,.pt 3 0 0),(8,.i v.1),(9,.i v.2.1),(10,.i v.2.2.1),(11,.i d.2.2.2),(12,.i v.2.2.2)],[(3,.var (au .o a))]⟩
def EX(a:ae)(b:List ai)(c:List Int)(d:Int×Int×Int×Int)(v:Int×Int×Int):St:=⟨[(1,.lst .o 2 (b.map (ax .o))),(2,.lst .o 1 (c.map AV.i)),(3,.pt 3 0 0),(8,.i v.1),(9,.i v.2.1),(10,.i v.2.2),(11,.i d.2.2.2)],[(3,.var (au .o a))]⟩
instance(c:ae)(d:List ai)(g:List Int)(j:Int×Int×Int×Int):CL (IC c d g j) Bn [1,2,3,8,9,10,11,12] [3] (Sd c d g j) (qX 2 [1,2,3,8,9,10,11] [3] (EX c d g j)):=⟨fun a o h=>by
 have e:=ZA @Sd.eq_1 @EX.eq_1;unfold IC at h;simp only[ZC,Sd,Bn];obtain⟨p,h⟩|⟨p,h⟩:=aw h
 ·obtain⟨x,c1,h⟩:=ah h;obtain⟨y,d1,h⟩:=ah h;obtain⟨a1,g1,h⟩:=ah h;obtain⟨b1,i1,h⟩:=ah h;obtain⟨j1,k1,h⟩:=ah h;have f:=ZA p (ZA (bc c1) (ZA (bc d1) (ZA (bc g1) (bc i1))));try refine ZF f ?_
  refine aD (sh:=(fun v=>⟨[(1,.lst .o 2 (d.map (ax .o))),(2,.lst .o 1 (g.map AV.i)),(3,.pt 3 0 0),(8,.i a.1),(9,.i a.2.1),(10,.i a.2.2.1),(11,.i j.2.2.2),(12,.i a.2.2.2),(13,.i (IntKind.wrap .i64 (x*(y.F.length:Int)))),(14,.i (IntKind.wrap .i64 (a1*(b1.F.length:Int)))),(79,.b v)],[(3,.var (au .o c))]⟩)) (s:=j1) ?_ ?_
  ·replace h:=k1;obtain⟨k,h⟩|⟨k,h⟩:=aw h
   ·cases h;exact ZL (ZA f k) trivial
   ·obtain⟨l,h⟩|⟨l,h⟩:=aw h
    ·cases h;exact ZL (ZA f (ZA k l)) trivial
    ·obtain⟨m,h⟩|⟨m,h⟩:=aw h
     ·obtain⟨q,h⟩|⟨q,h⟩:=aw h
      ·cases h;exact ZL (ZA f (ZA k (ZA l (ZA m q)))) trivial
      ·obtain⟨s1,l1,h⟩:=ah h;have f:=ZA f (ZA k (ZA l (ZA m q)));refine ZF f ?_;refine ZSG f (CW.w _ l1) ?_;cases h;exact ZL f trivial
     ·obtain⟨t1,m1,h⟩:=ah h;have f:=ZA f (ZA k (ZA l m));refine ZF f ?_;refine ZSG f (CW.w _ m1) ?_;cases h;exact ZL f trivial
  ·simp only[ZC,Lx];obtain⟨t,h⟩|⟨t,h⟩:=aw h
   ·cases h;exact ZL (ZA f t) e
   ·obtain⟨p1,q1,h⟩:=ah h;have f:=ZA f t;try refine ZF f ?_
    refine aD (sh:=(fun v=>⟨[(1,.lst .o 2 (d.map (ax .o))),(2,.lst .o 1 (g.map AV.i)),(3,.pt 3 0 0),(8,.i a.1),(9,.i a.2.1),(10,.i a.2.2.1),(11,.i j.2.2.2),(12,.i a.2.2.2),(13,.i (IntKind.wrap .i64 (x*(y.F.length:Int)))),(14,.i (IntKind.wrap .i64 (a1*(b1.F.length:Int)))),(88,.b v)],[(3,.var (au .o c))]⟩)) (s:=p1) ?_ ?_
    ·replace h:=q1;obtain⟨u,h⟩|⟨u,h⟩:=aw h
     ·cases h;exact ZL (ZA f u) trivial
     ·cases h;exact ZL (ZA f u) trivial
    ·simp only[ZC,QE];obtain⟨w,h⟩|⟨w,h⟩:=aw h
     ·cases h;exact ZL (ZA f w) e
     ·cases h;exact ZL (ZA f w) e
 ·cases h;exact ZL p e⟩
def Ud(a:ae)(b:List ai)(c:List Int)(v:Int×Int×Int×Int):St:=⟨[(1,.lst .o 2 (b.map (ax .o))),(2,.lst .o 1 (c.map AV.i)),(3,.pt 3 0 0),(8,.i v.1),(9,.i v.2.1),(10,.i v.2.2.1),(11,.i v.2.2.2)],[(3,.var (au .o a))]⟩
def Eu(v:Int×Int):St:=⟨[(8,.i v.1),(9,.i v.2)],[]⟩
instance(a:ae)(b:List ai)(c:List Int):CL (JW a b c) CZ [1,2,3,8,9,10,11] [3] (Ud a b c) (qX 0 [8,9] [] (Eu)):=⟨fun d o h=>by
 have e:=ZA @Ud.eq_1 @Eu.eq_1;unfold JW at h;simp only[ZC,Ud,CZ];obtain⟨g,h⟩|⟨g,h⟩:=aw h
 ·obtain⟨l,m,h⟩:=ah h;try refine ZF g ?_
  refine aD (sh:=(fun v=>⟨[(1,.lst .o 2 (b.map (ax .o))),(2,.lst .o 1 (c.map AV.i)),(3,.pt 3 0 0),(8,.i v.1),(9,.i v.2.1),(10,.i v.2.2),(11,.i d.2.2.2)],[(3,.var (au .o a))]⟩)) (s:=l) ?_ ?_
  ·replace h:=m;obtain⟨p,j,h⟩:=ah h;try refine ZF g ?_
   first|refine dz (bb (aJ CL.w j ?_)) (fun τ k=>?_)|refine eC (aJ CL.w j ?_) (fun τ k=>?_)
   ·exact ZK (ZA @Sd.eq_1 @EX.eq_1)
   ·cases h;try refine ZF trivial ?_
    refine⟨rfl,Shp.sub k (by decide) (by decide) ?_⟩;exact ZK @EX.eq_1
  ·simp only[ZC,KQ];cases h;exact ZL g e
 ·cases h;exact ZL g e⟩
instance(a:ae)(b:List ai)(c:List Int):CW (Nh a b c) (fun(r:Int×Int)=>Ok A1 122 [(au .o a),.lst .o 2 (b.map (ax .o)),.lst .o 1 (c.map AV.i)] (.tup [.i r.1,.i r.2])):=⟨fun r h=>by
 refine aL br m122 rfl ?_;unfold Nh at h;simp only[ZC,A122,io,aY];obtain⟨g,d,h⟩:=ah h;try refine ZF trivial ?_
 refine aD (bb (aJ CL.w d ?_)) ?_
 ·exact ZK (ZA @Ud.eq_1 @Eu.eq_1)
 ·simp only[ZC,Eu,NB];cases h;exact ZL trivial @io.eq_1⟩
def TB(b:ae)(c:List af)(a:af)(v:Int):St:=⟨[(1,.lst .o 10 (c.map (aj .o))),(3,.pt 3 0 0),(5,.pt 5 0 0),(7,.i v)],[(3,.var (au .o b)),(5,.var (aj .o a))]⟩
instance(a:ae)(c:List af)(d:af):CL (He a c d) BU [1,3,5,7] [3,5] (TB a c d) (qS (qX 0 [] [] (ce)) (qR dx (fun r=>.b r))):=⟨fun j o h=>by
 have e:=ZA @TB.eq_1 @ce.eq_1;unfold He at h;simp only[ZC,TB,BU];obtain⟨g,h⟩|⟨g,h⟩:=aw h
 ·obtain⟨m,k,h⟩:=ah h;obtain⟨p,l,h⟩:=ah h;have f:=ZA g (bc k);refine ZF f ?_;refine ZSG f (CW.w _ l) ?_;obtain⟨i,h⟩|⟨i,h⟩:=aw h
  ·cases h;exact ZL (ZA f i) @dx.eq_1
  ·cases h;exact ZL (ZA f i) e
 ·cases h;exact ZL g e⟩
instance(c:ae)(d:List af)(a:af):CW (tD c d a) (fun(r:Bool)=>Ok A1 166 [(au .o c),.lst .o 10 (d.map (aj .o)),(aj .o a)] (.b r)):=⟨fun r h=>by
 refine aL br m166 rfl ?_;unfold tD at h;simp only[ZC,A166,dx,aY];obtain⟨g,j,h⟩:=ah h;try refine ZF trivial ?_
 refine bW (o:=g) (co fM (aJ CL.w j ?_)) (fun l hv=>?_) (fun m hv e τ hne hq=>?_)
 ·exact ZK (ZA @TB.eq_1 @ce.eq_1)
 ·subst hv;simp only[] at h;simp only[ZC,ce,MC];cases h;exact ZL trivial @dx.eq_1
 ·subst hv;simp only[] at h;obtain⟨rfl,k⟩:=hq;cases h;exact k⟩
def xQ(a:ai)(c:List ByteArray)(d:List aG)(g:Int)(b:List ai)(v:Int):St:=⟨[(0,.pt 1000000000 0 0),(3,.pt 3 0 0),(4,.i v)],[(3,.var (ax .m a)),(1000000000,.var (.agg [.lst .m 1 (c.map AV.z),.lst .m 4 (d.map (aF .m)),.i g,.sl 1000000001 0 b.length])),(1000000001,.arr 2 (b.map (ax .u)))]⟩
instance(a:ai)(b:List ByteArray)(c:List aG)(d:List ai):CX (act a b c d) sd [0,3,4] [3,1000000000,1000000001] (Int) (fun g=>(xQ a b c g d)) (fun g=>(qX 0 [0,3,4] [3,1000000000,1000000001] (xQ a b c g d))):=⟨fun g k o h=>by
 have e:=ZA @xQ.eq_1 @xQ.eq_1;unfold act at h;simp only[ZC,xQ,sd];obtain⟨i,h⟩|⟨i,h⟩:=aw h
 ·obtain⟨q,l,h⟩:=ah h;obtain⟨s,m,h⟩:=ah h;obtain⟨t,p,h⟩:=ah h;have f:=ZA i (ZA (ba l) m);refine ZF f ?_;refine ZSG f (CW.w _ p) ?_;obtain⟨j,h⟩|⟨j,h⟩:=aw h
  ·cases h;exact ZL (ZA f j) e
  ·cases h;exact ZL (ZA f j) e
 ·cases h;exact ZL i e⟩
instance(b:ai)(j:List ByteArray)(k:List aG)(l:Int)(a:List ai):CW (ado b j k l a) (fun(r:List ByteArray×List aG×Int×List ai×List ai)=>OkM A1 261 [.pt 1000000000 0 0,(ax .m b)] [(1000000000,.var (.agg [.lst .m 1 (j.map AV.z),.lst .m 4 (k.map (aF .m)),.i l,.sl 1000000001 0 a.length])),(1000000001,.arr 2 (a.map (ax .u)))] (.tup []) ([(49,.arr 2 (r.2.2.2.1.map (ax .m))),(1000000000,.var (.agg [.lst .m 1 (r.1.map AV.z),.lst .m 4 (r.2.1.map (aF .m)),.i r.2.2.1,.sl 49 0 r.2.2.2.1.length])),(1000000001,.arr 2 (r.2.2.2.2.map (ax .u)))])):=⟨fun r h=>by
 refine aZ (lr:=[49,1000000000,1000000001]) br aeb rfl rfl ?_;unfold ado at h;simp only[ZC,Kw,bP];obtain⟨p,d1,h⟩:=ah h;try refine ZF trivial ?_
 refine aD (bb (aJ (CX.w l) d1 ?_)) ?_
 ·exact ZK (ZA @xQ.eq_1 @xQ.eq_1)
 ·simp only[ZC,xQ,zH];obtain⟨w1,g1,h⟩:=ah h;obtain⟨q,i1,h⟩:=bf h;have j1:sub (a.map (ax .u)) 0 (B4 p)=q.map (ax .u):=by rw[dH,i1]
  obtain⟨y1,k1,h⟩:=ah h;obtain⟨s,c,h⟩:=bf h;have l1:Row.arr 2 [(.agg [.i ((b).N),.lst .m 1 (((b).F).map AV.i)]:AV)]=Row.arr 2 (s.map (ax .m)):=by rw[<-c];rfl
  have w:s.length=1:=by rw[<-c];rfl
  obtain⟨z1,m1,h⟩:=ah h;have x:=ba m1;obtain⟨d,g,h⟩:=bf h;have p1:q.map (ax .m)++s.map (ax .m)=d.map (ax .m):=by rw[<-g,A4]
  have y:q.length+1=d.length:=by simp[<-c,<-g]<;>omega
  rw[y] at x;obtain⟨a2,q1,h⟩:=ah h;obtain⟨t,s1,h⟩:=bf h;have t1:sub (a.map (ax .u)) (B4 p) (a.length-(B4 p))=t.map (ax .u):=by rw[dH,s1]
  obtain⟨b2,u1,h⟩:=ah h;have a1:=ba u1;obtain⟨b1,v,h⟩:=bf h;have v1:d.map (ax .m)++t.map (ax .m)=b1.map (ax .m):=by rw[<-v,A4]
  have c1:d.length+t.length=b1.length:=by simp[<-c,<-g,<-v]<;>omega
  rw[c1] at a1;cases h;exact ZL (ZA (ba g1) (ZA j1 (ZA (ba k1) (ZA l1 (ZA w (ZA x (ZA p1 (ZA y (ZA (ba q1) (ZA t1 (ZA a1 (ZA v1 c1)))))))))))) (ZA @bP.eq_1 (ZA c.symm (ZA g.symm (ZA v.symm w))))⟩
def xo(a:ai)(c:List ByteArray)(d:List aG)(g:Int)(b:List ai)(v:Int):St:=⟨[(0,.pt 1000000000 0 0),(3,.pt 3 0 0),(4,.i v)],[(3,.var (ax .m a)),(1000000000,.var (.agg [.lst .m 1 (c.map AV.z),.lst .m 4 (d.map (aF .m)),.i g,.sl 1000000001 0 b.length])),(1000000001,.arr 2 (b.map (ax .m)))]⟩
instance(a:ai)(b:List ByteArray)(c:List aG)(d:List ai):CX (Jc a b c d) sI [0,3,4] [3,1000000000,1000000001] (Int) (fun g=>(xo a b c g d)) (fun g=>(qX 0 [0,3,4] [3,1000000000,1000000001] (xo a b c g d))):=⟨fun g k o h=>by
 have e:=ZA @xo.eq_1 @xo.eq_1;unfold Jc at h;simp only[ZC,xo,sI];obtain⟨i,h⟩|⟨i,h⟩:=aw h
 ·obtain⟨q,l,h⟩:=ah h;obtain⟨s,m,h⟩:=ah h;obtain⟨t,p,h⟩:=ah h;have f:=ZA i (ZA (ba l) m);refine ZF f ?_;refine ZSG f (CW.w _ p) ?_;obtain⟨j,h⟩|⟨j,h⟩:=aw h
  ·cases h;exact ZL (ZA f j) e
  ·cases h;exact ZL (ZA f j) e
 ·cases h;exact ZL i e⟩
instance(b:ai)(j:List ByteArray)(k:List aG)(l:Int)(a:List ai):CW (RF b j k l a) (fun(r:List ByteArray×List aG×Int×List ai×List ai)=>OkM A1 261 [.pt 1000000000 0 0,(ax .m b)] [(1000000000,.var (.agg [.lst .m 1 (j.map AV.z),.lst .m 4 (k.map (aF .m)),.i l,.sl 1000000001 0 a.length])),(1000000001,.arr 2 (a.map (ax .m)))] (.tup []) ([(49,.arr 2 (r.2.2.2.1.map (ax .m))),(1000000000,.var (.agg [.lst .m 1 (r.1.map AV.z),.lst .m 4 (r.2.1.map (aF .m)),.i r.2.2.1,.sl 49 0 r.2.2.2.1.length])),(1000000001,.arr 2 (r.2.2.2.2.map (ax .m)))])):=⟨fun r h=>by
 refine aZ (lr:=[49,1000000000,1000000001]) br Zc rfl rfl ?_;unfold RF at h;simp only[ZC,LT,bP];obtain⟨p,c1,h⟩:=ah h;try refine ZF trivial ?_
 refine aD (bb (aJ (CX.w l) c1 ?_)) ?_
 ·exact ZK (ZA @xo.eq_1 @xo.eq_1)
 ·simp only[ZC,xo,xE];obtain⟨v1,d1,h⟩:=ah h;obtain⟨q,g1,h⟩:=bf h;have i1:sub (a.map (ax .m)) 0 (B4 p)=q.map (ax .m):=by rw[dH,g1]
  obtain⟨w1,j1,h⟩:=ah h;obtain⟨s,c,h⟩:=bf h;have k1:Row.arr 2 [(.agg [.i ((b).N),.lst .m 1 (((b).F).map AV.i)]:AV)]=Row.arr 2 (s.map (ax .m)):=by rw[<-c];rfl
  have v:s.length=1:=by rw[<-c];rfl
  obtain⟨y1,l1,h⟩:=ah h;have w:=ba l1;obtain⟨d,g,h⟩:=bf h;have m1:q.map (ax .m)++s.map (ax .m)=d.map (ax .m):=by rw[<-g,A4]
  have x:q.length+1=d.length:=by simp[<-c,<-g]<;>omega
  rw[x] at w;obtain⟨z1,p1,h⟩:=ah h;obtain⟨t,q1,h⟩:=bf h;have s1:sub (a.map (ax .m)) (B4 p) (a.length-(B4 p))=t.map (ax .m):=by rw[dH,q1]
  obtain⟨a2,t1,h⟩:=ah h;have y:=ba t1;obtain⟨a1,u,h⟩:=bf h;have u1:d.map (ax .m)++t.map (ax .m)=a1.map (ax .m):=by rw[<-u,A4]
  have b1:d.length+t.length=a1.length:=by simp[<-c,<-g,<-u]<;>omega
  rw[b1] at y;cases h;exact ZL (ZA (ba d1) (ZA i1 (ZA (ba j1) (ZA k1 (ZA v (ZA w (ZA m1 (ZA x (ZA (ba p1) (ZA s1 (ZA y (ZA u1 b1)))))))))))) (ZA @bP.eq_1 (ZA c.symm (ZA g.symm (ZA u.symm v))))⟩
def S_w(b:Int)(c:List Int)(a:List Int)(d:Int)(v:Int×List ByteArray×List aG×Int×List ai):St:=⟨[(0,.pt 1000000000 0 0),(2,.sl 1000000003 0 a.length),(4,.pt 4 0 0),(6,.i d),(7,.i v.1)],[(4,.var (.agg [.i b,.lst .m 1 (c.map AV.i)])),(470000003,.arr 2 (v.2.2.2.2.map (ax .m))),(1000000000,.var (.agg [.lst .m 1 (v.2.1.map AV.z),.lst .m 4 (v.2.2.1.map (aF .m)),.i v.2.2.2.1,.sl 470000003 0 v.2.2.2.2.length])),(1000000003,.arr 1 (a.map AV.i))]⟩
def Tx(a:List Int)(v:List ByteArray×List aG×Int×List ai):St:=⟨[],[(470000003,.arr 2 (v.2.2.2.map (ax .m))),(1000000000,.var (.agg [.lst .m 1 (v.1.map AV.z),.lst .m 4 (v.2.1.map (aF .m)),.i v.2.2.1,.sl 470000003 0 v.2.2.2.length])),(1000000003,.arr 1 (a.map AV.i))]⟩
def w_w(j:Int)(u:List ByteArray)(w:List aG)(x:Int)(p:List ai)(d:List Int)(c:List Int)(i1:Int->List ByteArray->List aG->Int->List ai->List Int->List Int->Option (List ByteArray×List aG×Int×List ai×List Int))(k:Int)(y1:∀(j:Int)(u:List ByteArray)(w:List aG)(x:Int)(p:List ai)(d:List Int)(c:List Int){r:List ByteArray×List aG×Int×List ai×List Int},i1 j u w x p d c=some r->OkM A1 240 [.pt 1000000000 0 0,.agg [.i j,.sl 1000000002 0 d.length],.sl 1000000003 0 c.length] [(1000000000,.var (.agg [.lst .m 1 (u.map AV.z),.lst .m 4 (w.map (aF .m)),.i x,.sl 1000000001 0 p.length])),(1000000001,.arr 2 (p.map (ax .m))),(1000000002,.arr 1 (d.map AV.i)),(1000000003,.arr 1 (c.map AV.i))] (.tup []) ([(470000003,.arr 2 (r.2.2.2.1.map (ax .m))),(1000000000,.var (.agg [.lst .m 1 (r.1.map AV.z),.lst .m 4 (r.2.1.map (aF .m)),.i r.2.2.1,.sl 470000003 0 r.2.2.2.1.length])),(1000000003,.arr 1 (r.2.2.2.2.map AV.i))]))(a:Int×List ByteArray×List aG×Int×List ai)(o:(Int×List ByteArray×List aG×Int×List ai)⊕(List ByteArray×List aG×Int×List ai))(h:M_w j d c i1 k a=some o):AWP (OkS A1) nO (qL [0,2,4,6,7] [4,470000003,1000000000,1000000003] (S_w j d c k) (qX 0 [] [470000003,1000000000,1000000003] (Tx c)) o) (S_w j d c k a):=by
 have e:=ZA @S_w.eq_1 @Tx.eq_1;unfold M_w at h;simp only[ZC,S_w,nO];obtain⟨z1,a2,h⟩:=ah h;try refine ZF trivial ?_
 refine aD (sh:=(fun v=>⟨[(0,.pt 1000000000 0 0),(2,.sl 1000000003 0 c.length),(4,.pt 4 0 0),(6,.i k),(7,.i a.1),(39,.b v)],[(4,.var (.agg [.i j,.lst .m 1 (d.map AV.i)])),(470000003,.arr 2 (a.2.2.2.2.map (ax .m))),(1000000000,.var (.agg [.lst .m 1 (a.2.1.map AV.z),.lst .m 4 (a.2.2.1.map (aF .m)),.i a.2.2.2.1,.sl 470000003 0 a.2.2.2.2.length])),(1000000003,.arr 1 (c.map AV.i))]⟩)) (s:=z1) ?_ ?_
 ·replace h:=a2;obtain⟨y,h⟩|⟨y,h⟩:=aw h
  ·cases h;exact ZL y trivial
  ·cases h;exact ZL y trivial
 ·simp only[ZC,uP];obtain⟨g,h⟩|⟨g,h⟩:=aw h
  ·obtain⟨j1,b2,h⟩:=ah h;refine ZF g ?_;refine ZSG g (CW.w _ b2) ?_;obtain⟨c2,d2,h⟩:=ah h;try refine ZF g ?_
   refine aD (sh:=(fun v=>⟨[(0,.pt 1000000000 0 0),(2,.sl 1000000003 0 c.length),(4,.pt 4 0 0),(6,.i k),(7,.i a.1),(8,.i j1),(56,.b v)],[(4,.var (.agg [.i j,.lst .m 1 (d.map AV.i)])),(470000003,.arr 2 (a.2.2.2.2.map (ax .m))),(1000000000,.var (.agg [.lst .m 1 (a.2.1.map AV.z),.lst .m 4 (a.2.2.1.map (aF .m)),.i a.2.2.2.1,.sl 470000003 0 a.2.2.2.2.length])),(1000000003,.arr 1 (c.map AV.i))]⟩)) (s:=c2) ?_ ?_
   ·replace h:=d2;obtain⟨a1,h⟩|⟨a1,h⟩:=aw h
    ·obtain⟨u2,g2,h⟩:=ah h;have f:=ZA g a1;refine ZF f ?_;refine ZSG f (CW.w _ g2) ?_;cases h;exact ZL f trivial
    ·cases h;exact ZL (ZA g a1) trivial
   ·simp only[ZC,tR];obtain⟨b1,h⟩|⟨b1,h⟩:=aw h
    ·obtain⟨k1,i2,h⟩:=ah h;have f:=ZA g b1;refine ZF f ?_;refine ZUG f (CW.w _ i2) ?_;obtain⟨c1,l,h⟩:=bf h;have j2:Row.arr 1 [(.i a.1:AV)]=Row.arr 1 (c1.map AV.i):=by rw[<-l];rfl
     have l1:c1.length=1:=by rw[<-l];rfl
     obtain⟨v2,k2,h⟩:=ah h;have m1:=ba k2;obtain⟨p1,q,h⟩:=bf h;have l2:k1.map AV.i++c1.map AV.i=p1.map AV.i:=by rw[<-q,A4]
     have q1:k1.length+1=p1.length:=by simp[<-l,<-q]<;>omega
     rw[q1] at m1;obtain⟨s1,m2,h⟩:=ah h;have f:=ZA f (ZA j2 (ZA l1 (ZA m1 (ZA l2 q1))));refine ZF f ?_;refine ZUG f (CW.w _ m2) ?_;obtain⟨d1,t,h⟩:=bf h;have p2:Row.arr 1 [(.i j1:AV)]=Row.arr 1 (d1.map AV.i):=by rw[<-t];rfl
     have t1:d1.length=1:=by rw[<-t];rfl
     obtain⟨w2,q2,h⟩:=ah h;have u1:=ba q2;obtain⟨v1,g1,h⟩:=bf h;have s2:s1.map AV.i++d1.map AV.i=v1.map AV.i:=by rw[<-g1,A4]
     have w1:s1.length+1=v1.length:=by simp[<-l,<-q,<-t,<-g1]<;>omega
     rw[w1] at u1;obtain⟨x2,t2,h⟩:=ah h;have f:=ZA f (ZA p2 (ZA t1 (ZA u1 (ZA s2 w1))));refine ZF f ?_;refine ZWG f (y1 _ _ _ _ _ _ _ t2) [470000003,1000000000,1000000003] [477300003] ?_;cases h;exact ZL f (ZA e (ZA l.symm (ZA q.symm (ZA t.symm (ZA g1.symm (ZA l1 t1))))))
    ·cases h;exact ZL (ZA g b1) e
  ·cases h;exact ZL g e
def aes(l:Int->List ByteArray->List aG->Int->List ai->List Int->List Int->Option (List ByteArray×List aG×Int×List ai×List Int))(q:∀(d:Int)(g:List ByteArray)(j:List aG)(k:Int)(a:List ai)(b:List Int)(c:List Int){r:List ByteArray×List aG×Int×List ai×List Int},l d g j k a b c=some r->OkM A1 240 [.pt 1000000000 0 0,.agg [.i d,.sl 1000000002 0 b.length],.sl 1000000003 0 c.length] [(1000000000,.var (.agg [.lst .m 1 (g.map AV.z),.lst .m 4 (j.map (aF .m)),.i k,.sl 1000000001 0 a.length])),(1000000001,.arr 2 (a.map (ax .m))),(1000000002,.arr 1 (b.map AV.i)),(1000000003,.arr 1 (c.map AV.i))] (.tup []) ([(470000003,.arr 2 (r.2.2.2.1.map (ax .m))),(1000000000,.var (.agg [.lst .m 1 (r.1.map AV.z),.lst .m 4 (r.2.1.map (aF .m)),.i r.2.2.1,.sl 470000003 0 r.2.2.2.1.length])),(1000000003,.arr 1 (r.2.2.2.2.map AV.i))]))(d:Int)(g:List ByteArray)(j:List aG)(k:Int)(a:List ai)(b:List Int)(c:List Int){r:List ByteArray×List aG×Int×List ai×List Int}(h:IQ l d g j k a b c=some r):OkM A1 240 [.pt 1000000000 0 0,.agg [.i d,.sl 1000000002 0 b.length],.sl 1000000003 0 c.length] [(1000000000,.var (.agg [.lst .m 1 (g.map AV.z),.lst .m 4 (j.map (aF .m)),.i k,.sl 1000000001 0 a.length])),(1000000001,.arr 2 (a.map (ax .m))),(1000000002,.arr 1 (b.map AV.i)),(1000000003,.arr 1 (c.map AV.i))] (.tup []) ([(470000003,.arr 2 (r.2.2.2.1.map (ax .m))),(1000000000,.var (.agg [.lst .m 1 (r.1.map AV.z),.lst .m 4 (r.2.1.map (aF .m)),.i r.2.2.1,.sl 470000003 0 r.2.2.2.1.length])),(1000000003,.arr 1 (r.2.2.2.2.map AV.i))]):=by
 refine aZ (lr:=[470000003,1000000000,1000000003]) br Sz rfl rfl ?_;unfold IQ at h;simp only[ZC,DW,bP];obtain⟨y,s,h⟩:=ah h;obtain⟨t,u,h⟩:=ah h;obtain⟨p,h⟩|⟨p,h⟩:=aw h
 ·obtain⟨a1,x,h⟩:=ah h;have f:=ZA (ba s) (ZA u p);refine ZF f ?_;refine ZWG f (CW.w _ x) [49,1000000000,1000000001] [2400049] ?_;cases h;exact ZL f @bP.eq_1
 ·obtain⟨b1,v,h⟩:=ah h;try refine ZF (ZA (ba s) (ZA u p)) ?_
  first|refine dz (bb (aJ (w_w d g j k a b c l t q) v ?_)) (fun τ w=>?_)|refine eC (aJ (w_w d g j k a b c l t q) v ?_) (fun τ w=>?_)
  ·exact ZK (ZA @S_w.eq_1 @Tx.eq_1)
  ·cases h;refine gW w (by decide) ?_ rfl;exact ZK (ZA @bP.eq_1 @Tx.eq_1)
theorem w_cd:∀(n:Nat)(d:Int)(g:List ByteArray)(j:List aG)(k:Int)(a:List ai)(b:List Int)(c:List Int){r:List ByteArray×List aG×Int×List ai×List Int}(_:Cr n d g j k a b c=some r),OkM A1 240 [.pt 1000000000 0 0,.agg [.i d,.sl 1000000002 0 b.length],.sl 1000000003 0 c.length] [(1000000000,.var (.agg [.lst .m 1 (g.map AV.z),.lst .m 4 (j.map (aF .m)),.i k,.sl 1000000001 0 a.length])),(1000000001,.arr 2 (a.map (ax .m))),(1000000002,.arr 1 (b.map AV.i)),(1000000003,.arr 1 (c.map AV.i))] ((fun(r:List ByteArray×List aG×Int×List ai×List Int)=>.tup []) r) ((fun(r:List ByteArray×List aG×Int×List ai×List Int)=>[(470000003,.arr 2 (r.2.2.2.1.map (ax .m))),(1000000000,.var (.agg [.lst .m 1 (r.1.map AV.z),.lst .m 4 (r.2.1.map (aF .m)),.i r.2.2.1,.sl 470000003 0 r.2.2.2.1.length])),(1000000003,.arr 1 (r.2.2.2.2.map AV.i))]) r)
 |0,d,g,j,k,a,b,c,_,h=>by cases h
 |n+1,d,g,j,k,a,b,c,_,h=>aes (Cr n) (w_cd n) d g j k a b c h
def VV(b:Int)(a:List Int)(c:Int)(v:Int×List ByteArray×List aG×Int×List ai):St:=⟨[(0,.pt 1000000000 0 0),(2,.sl 1000000001 0 a.length),(4,.pt 4 0 0),(6,.i c),(7,.i v.1)],[(4,.var (.agg [.i b,.lst .m 1 []])),(470000003,.arr 2 (v.2.2.2.2.map (ax .m))),(1000000000,.var (.agg [.lst .m 1 (v.2.1.map AV.z),.lst .m 4 (v.2.2.1.map (aF .m)),.i v.2.2.2.1,.sl 470000003 0 v.2.2.2.2.length])),(1000000001,.arr 1 (a.map AV.i))]⟩
def ED(a:List Int)(v:List ByteArray×List aG×Int×List ai):St:=⟨[],[(470000003,.arr 2 (v.2.2.2.map (ax .m))),(1000000000,.var (.agg [.lst .m 1 (v.1.map AV.z),.lst .m 4 (v.2.1.map (aF .m)),.i v.2.2.1,.sl 470000003 0 v.2.2.2.length])),(1000000001,.arr 1 (a.map AV.i))]⟩
instance(g:Int)(d:List Int)(j:Int):CL (adl g d j) rS [0,2,4,6,7] [4,470000003,1000000000,1000000001] (VV g d j) (qX 0 [] [470000003,1000000000,1000000001] (ED d)):=⟨fun a o h=>by
 have e:=ZA @VV.eq_1 @ED.eq_1;unfold adl at h;simp only[ZC,VV,rS];obtain⟨q1,s1,h⟩:=ah h;try refine ZF trivial ?_
 refine aD (sh:=(fun v=>⟨[(0,.pt 1000000000 0 0),(2,.sl 1000000001 0 d.length),(4,.pt 4 0 0),(6,.i j),(7,.i a.1),(39,.b v)],[(4,.var (.agg [.i g,.lst .m 1 []])),(470000003,.arr 2 (a.2.2.2.2.map (ax .m))),(1000000000,.var (.agg [.lst .m 1 (a.2.1.map AV.z),.lst .m 4 (a.2.2.1.map (aF .m)),.i a.2.2.2.1,.sl 470000003 0 a.2.2.2.2.length])),(1000000001,.arr 1 (d.map AV.i))]⟩)) (s:=q1) ?_ ?_
 ·replace h:=s1;obtain⟨q,h⟩|⟨q,h⟩:=aw h
  ·cases h;exact ZL q trivial
  ·cases h;exact ZL q trivial
 ·simp only[ZC,xq];obtain⟨c,h⟩|⟨c,h⟩:=aw h
  ·obtain⟨a1,t1,h⟩:=ah h;refine ZF c ?_;refine ZSG c (CW.w _ t1) ?_;obtain⟨u1,v1,h⟩:=ah h;try refine ZF c ?_
   refine aD (sh:=(fun v=>⟨[(0,.pt 1000000000 0 0),(2,.sl 1000000001 0 d.length),(4,.pt 4 0 0),(6,.i j),(7,.i a.1),(8,.i a1),(56,.b v)],[(4,.var (.agg [.i g,.lst .m 1 []])),(470000003,.arr 2 (a.2.2.2.2.map (ax .m))),(1000000000,.var (.agg [.lst .m 1 (a.2.1.map AV.z),.lst .m 4 (a.2.2.1.map (aF .m)),.i a.2.2.2.1,.sl 470000003 0 a.2.2.2.2.length])),(1000000001,.arr 1 (d.map AV.i))]⟩)) (s:=u1) ?_ ?_
   ·replace h:=v1;obtain⟨t,h⟩|⟨t,h⟩:=aw h
    ·obtain⟨k2,w1,h⟩:=ah h;have f:=ZA c t;refine ZF f ?_;refine ZSG f (CW.w _ w1) ?_;cases h;exact ZL f trivial
    ·cases h;exact ZL (ZA c t) trivial
   ·simp only[ZC,zL];obtain⟨u,h⟩|⟨u,h⟩:=aw h
    ·obtain⟨b1,y1,h⟩:=ah h;have f:=ZA c u;refine ZF f ?_;refine ZUG f (CW.w _ y1) ?_;obtain⟨w,k,h⟩:=bf h;have z1:Row.arr 1 [(.i a.1:AV)]=Row.arr 1 (w.map AV.i):=by rw[<-k];rfl
     have c1:w.length=1:=by rw[<-k];rfl
     obtain⟨l2,a2,h⟩:=ah h;have d1:=ba a2;obtain⟨g1,l,h⟩:=bf h;have b2:b1.map AV.i++w.map AV.i=g1.map AV.i:=by rw[<-l,A4]
     have i1:b1.length+1=g1.length:=by simp[<-k,<-l]<;>omega
     rw[i1] at d1;obtain⟨j1,c2,h⟩:=ah h;have f:=ZA f (ZA z1 (ZA c1 (ZA d1 (ZA b2 i1))));refine ZF f ?_;refine ZUG f (CW.w _ c2) ?_;obtain⟨x,p,h⟩:=bf h;have d2:Row.arr 1 [(.i a1:AV)]=Row.arr 1 (x.map AV.i):=by rw[<-p];rfl
     have k1:x.length=1:=by rw[<-p];rfl
     obtain⟨m2,g2,h⟩:=ah h;have l1:=ba g2;obtain⟨m1,y,h⟩:=bf h;have i2:j1.map AV.i++x.map AV.i=m1.map AV.i:=by rw[<-y,A4]
     have p1:j1.length+1=m1.length:=by simp[<-k,<-l,<-p,<-y]<;>omega
     rw[p1] at l1;obtain⟨p2,j2,h⟩:=ah h;have f:=ZA f (ZA d2 (ZA k1 (ZA l1 (ZA i2 p1))));refine ZF f ?_;refine ZWG f (w_cd N0 _ _ _ _ _ _ _ j2) [470000003,1000000000,1000000003] [477300003] ?_;cases h;exact ZL f (ZA e (ZA k.symm (ZA l.symm (ZA p.symm (ZA y.symm (ZA c1 k1))))))
    ·cases h;exact ZL (ZA c u) e
  ·cases h;exact ZL c e⟩
instance(b:Int)(d:List ByteArray)(g:List aG)(j:Int)(a:List Int):CW (VG b d g j a) (fun(r:List ByteArray×List aG×Int×List ai×List Int)=>OkM A1 240 [.pt 1000000000 0 0,.agg [.i b,.lst .u 1 []],.sl 1000000001 0 a.length] [(1000000000,.var (.agg [.lst .m 1 (d.map AV.z),.lst .m 4 (g.map (aF .m)),.i j,.lst .u 2 []])),(1000000001,.arr 1 (a.map AV.i))] (.tup []) ([(470000003,.arr 2 (r.2.2.2.1.map (ax .m))),(1000000000,.var (.agg [.lst .m 1 (r.1.map AV.z),.lst .m 4 (r.2.1.map (aF .m)),.i r.2.2.1,.sl 470000003 0 r.2.2.2.1.length])),(1000000001,.arr 1 (r.2.2.2.2.map AV.i))])):=⟨fun r h=>by
 refine aZ (lr:=[470000003,1000000000,1000000001]) br acu rfl rfl ?_;unfold VG at h;simp only[ZC,Rg,bP];obtain⟨v,k,h⟩:=ah h;obtain⟨l,p,h⟩:=ah h;obtain⟨c,h⟩|⟨c,h⟩:=aw h
 ·obtain⟨w,t,h⟩:=ah h;have f:=ZA (ba k) (ZA p c);refine ZF f ?_;refine ZWG f (CW.w _ t) [49,1000000000,1000000001] [2400049] ?_;cases h;exact ZL f @bP.eq_1
 ·obtain⟨x,q,h⟩:=ah h;try refine ZF (ZA (ba k) (ZA p c)) ?_
  first|refine dz (bb (aJ CL.w q ?_)) (fun τ s=>?_)|refine eC (aJ CL.w q ?_) (fun τ s=>?_)
  ·exact ZK (ZA @VV.eq_1 @ED.eq_1)
  ·cases h;refine gW s (by decide) ?_ rfl;exact ZK (ZA @bP.eq_1 @ED.eq_1)⟩
instance(c:ae)(d:Int)(k:Int):CW (Bj c d k) (fun(r:Bool×List ai)=>OkM A1 218 [(au .m c),.i d,.i k] [] (.tup [.sl 6 0 r.2.length,.b r.1]) ([(6,.arr 2 (r.2.map (ax .m)))])):=⟨fun r h=>by
 refine aZ (lr:=[6]) br aaj rfl rfl ?_;unfold Bj at h;simp only[ZC,Kt,io];obtain⟨l,a,h⟩:=bf h;have p:Row.arr 1 [(.i d:AV)]=Row.arr 1 (l.map AV.i):=by rw[<-a];rfl
 have g:l.length=1:=by rw[<-a];rfl
 obtain⟨t,q,h⟩:=ah h;have f:=ZA p g;refine ZF f ?_;refine ZWG f (CW.w _ q) [470000003,1000000000,1000000001] [471900003] ?_;obtain⟨j,h⟩|⟨j,h⟩:=aw h
 ·cases h;exact ZL (ZA f j) (ZA @io.eq_1 (ZA a.symm g))
 ·obtain⟨u,s,h⟩:=ah h;cases h;exact ZL (ZA f (ZA j (ba s))) (ZA @io.eq_1 (ZA a.symm g))⟩
def SM(b:ae)(a:aM)(c:List az)(d:Bool×List ai)(v:Int×List ai×List Int):St:=⟨[(1,.sl 1000000000 0 c.length),(3,.pt 3 0 0),(5,.pt 5 0 0),(9,.sl 9 0 v.2.1.length),(10,.sl 10 0 v.2.2.length),(11,.sl 11 0 d.2.length),(13,.i v.1)],[(3,.var (au .m b)),(5,.var (aQ .o a)),(9,.arr 2 (v.2.1.map (ax .m))),(10,.arr 1 (v.2.2.map AV.i)),(11,.arr 2 (d.2.map (ax .m))),(1000000000,.arr 2 (c.map (aB .u)))]⟩
def Eo(a:List az)(v:List ai×List Int):St:=⟨[(9,.sl 9 0 v.1.length),(10,.sl 10 0 v.2.length)],[(9,.arr 2 (v.1.map (ax .m))),(10,.arr 1 (v.2.map AV.i)),(1000000000,.arr 2 (a.map (aB .u)))]⟩
instance(j:ae)(k:aM)(c:List az)(l:Bool×List ai):CL (xL j k c l) qf [1,3,5,9,10,11,13] [3,5,9,10,11,1000000000] (SM j k c l) (qX 0 [9,10] [9,10,1000000000] (Eo c)):=⟨fun a o h=>by
 have e:=ZA @SM.eq_1 @Eo.eq_1;unfold xL at h;simp only[ZC,SM,qf];obtain⟨p,h⟩|⟨p,h⟩:=aw h
 ·obtain⟨v1,g1,h⟩:=ah h;obtain⟨v,i1,h⟩:=ah h;obtain⟨w1,j1,h⟩:=ah h;have f:=ZA p (ZA (ba g1) i1);refine ZF f ?_;refine ZSG f (CW.w _ j1) ?_;obtain⟨k1,l1,h⟩:=ah h;refine ZF f ?_;refine ZSG f (CW.w _ l1) ?_;obtain⟨q,h⟩|⟨q,h⟩:=aw h
  ·obtain⟨s,b,h⟩:=bf h;have m1:Row.arr 2 [(.agg [.i v.N,.lst .m 1 (v.F.map AV.i)]:AV)]=Row.arr 2 (s.map (ax .m)):=by rw[<-b];rfl
   have w:s.length=1:=by rw[<-b];rfl
   obtain⟨y1,p1,h⟩:=ah h;have x:=ba p1;obtain⟨y,d,h⟩:=bf h;have q1:a.2.1.map (ax .m)++s.map (ax .m)=y.map (ax .m):=by rw[<-d,A4]
   have z:a.2.1.length+1=y.length:=by simp[<-b,<-d]<;>omega
   rw[z] at x;obtain⟨t,g,h⟩:=bf h;have s1:Row.arr 1 [(.i k1:AV)]=Row.arr 1 (t.map AV.i):=by rw[<-g];rfl
   have a1:t.length=1:=by rw[<-g];rfl
   obtain⟨z1,t1,h⟩:=ah h;have b1:=ba t1;obtain⟨c1,u,h⟩:=bf h;have u1:a.2.2.map AV.i++t.map AV.i=c1.map AV.i:=by rw[<-u,A4]
   have d1:a.2.2.length+1=c1.length:=by simp[<-b,<-d,<-g,<-u]<;>omega
   rw[d1] at b1;cases h;exact ZL (ZA f (ZA q (ZA m1 (ZA w (ZA x (ZA q1 (ZA z (ZA s1 (ZA a1 (ZA b1 (ZA u1 d1))))))))))) (ZA e (ZA b.symm (ZA d.symm (ZA g.symm (ZA u.symm (ZA w a1))))))
  ·cases h;exact ZL (ZA f q) e
 ·cases h;exact ZL p e⟩
instance(c:ae)(a:aM)(d:List az):CW (IA c a d) (fun(r:Bool×List ai×List Int×List az)=>OkM A1 184 [(au .m c),.sl 1000000000 0 d.length,(aQ .o a)] [(1000000000,.arr 2 (d.map (aB .u)))] (.tup [.sl 6 0 r.2.1.length,.sl 7 0 r.2.2.1.length,.b r.1]) ([(6,.arr 2 (r.2.1.map (ax .m))),(7,.arr 1 (r.2.2.1.map AV.i)),(1000000000,.arr 2 (r.2.2.2.map (aB .u)))])):=⟨fun r h=>by
 refine aZ (lr:=[6,7,1000000000]) br YT rfl rfl ?_;unfold IA at h;simp only[ZC,Qs,fd];obtain⟨j,k,h⟩:=ah h;refine ZF trivial ?_;refine ZWG trivial (CW.w _ k) [6] [2400006] ?_;obtain⟨g,h⟩|⟨g,h⟩:=aw h
 ·cases h;exact ZL g @fd.eq_1
 ·obtain⟨p,l,h⟩:=ah h;try refine ZF g ?_
  refine aD (bb (aJ CL.w l ?_)) ?_
  ·exact ZK (ZA @SM.eq_1 @Eo.eq_1)
  ·simp only[ZC,Eo,xh];cases h;exact ZL g @fd.eq_1⟩
instance(d:ae)(a:aM)(g:List az):CW (CF d a g) (fun(r:Bool×List ai×List Int×List az)=>OkM A1 121 [(au .m d),.sl 1000000000 0 g.length,(aQ .o a)] [(1000000000,.arr 2 (g.map (aB .u)))] (.tup [.sl 6 0 r.2.1.length,.sl 7 0 r.2.2.1.length,.b r.1]) ([(6,.arr 2 (r.2.1.map (ax .m))),(7,.arr 1 (r.2.2.1.map AV.i)),(1000000000,.arr 2 (r.2.2.2.map (aB .u)))])):=⟨fun r h=>by
 refine aZ (lr:=[6,7,1000000000]) br aaq rfl rfl ?_;unfold CF at h;simp only[ZC,PX,fd];obtain⟨l,p,h⟩:=ah h;try refine ZF trivial ?_
 refine aD (sh:=(fun v=>⟨[(1,.sl 1000000000 0 g.length),(3,.pt 3 0 0),(5,.pt 5 0 0),(22,.b v)],[(3,.var (au .m d)),(5,.var (aQ .o a)),(1000000000,.arr 2 (g.map (aB .u)))]⟩)) (s:=l) ?_ ?_
 ·replace h:=p;obtain⟨y,q,h⟩:=ah h;refine ZF trivial ?_;refine ZSG trivial (CW.w _ q) ?_;obtain⟨c,h⟩|⟨c,h⟩:=aw h
  ·cases h;exact ZL c trivial
  ·obtain⟨a1,t,h⟩:=ah h;refine ZF c ?_;refine ZSG c (CW.w _ t) ?_;obtain⟨k,h⟩|⟨k,h⟩:=aw h
   ·cases h;exact ZL (ZA c k) trivial
   ·obtain⟨b1,w,h⟩:=ah h;have f:=ZA c k;refine ZF f ?_;refine ZSG f (CW.w _ w) ?_;cases h;exact ZL f trivial
 ·simp only[ZC,zw];obtain⟨j,h⟩|⟨j,h⟩:=aw h
  ·cases h;exact ZL j @fd.eq_1
  ·obtain⟨c1,x,h⟩:=ah h;refine ZF j ?_;refine ZWG j (CW.w _ x) [6,7,1000000000] [2900006,2900007] ?_;cases h;exact ZL j @fd.eq_1⟩
instance(d:ae)(a:aM)(g:List az):CW (JD d a g) (fun(r:ai×Int×Bool×List az)=>OkM A1 89 [(au .m d),.sl 1000000000 0 g.length,(aQ .o a)] [(1000000000,.arr 2 (g.map (aB .u)))] (.tup [.agg [.i ((r.1).N),.lst .m 1 (((r.1).F).map AV.i)],.i r.2.1,.b r.2.2.1]) ([(1000000000,.arr 2 (r.2.2.2.map (aB .u)))])):=⟨fun r h=>by
 refine aZ (lr:=[1000000000]) br ael rfl rfl ?_;unfold JD at h;simp only[ZC,Yw,Dv];obtain⟨c,l,h⟩:=ah h;refine ZF trivial ?_;refine ZWG trivial (CW.w _ l) [6,7,1000000000] [1800006,1800007] ?_;obtain⟨p,q,h⟩:=ah h;refine ZF trivial ?_;refine ZSG trivial (CW.w _ q) ?_;obtain⟨t,w,h⟩:=ah h;try refine ZF trivial ?_
 refine aD (sh:=(fun v=>⟨[(6,.pt 6 0 0),(9,.sl 9 0 c.2.1.length),(10,.sl 10 0 c.2.2.1.length),(12,.i p),(29,.b v)],[(6,.var (.agg [.i 0,.lst .u 1 []])),(9,.arr 2 (c.2.1.map (ax .m))),(10,.arr 1 (c.2.2.1.map AV.i)),(1000000000,.arr 2 (c.2.2.2.map (aB .u)))]⟩)) (s:=t) ?_ ?_
 ·replace h:=w;obtain⟨j,h⟩|⟨j,h⟩:=aw h
  ·cases h;exact ZL j trivial
  ·cases h;exact ZL j trivial
 ·simp only[ZC,DC];obtain⟨k,h⟩|⟨k,h⟩:=aw h
  ·cases h;exact ZL k @Dv.eq_1
  ·obtain⟨c1,x,h⟩:=ah h;obtain⟨d1,y,h⟩:=ah h;obtain⟨g1,a1,h⟩:=ah h;obtain⟨i1,b1,h⟩:=ah h;cases h;exact ZL (ZA k (ZA (ba x) (ZA y (ZA (ba a1) b1)))) @Dv.eq_1⟩
def Wt(b:ae)(d:Nat)(g:Nat)(a:aM)(j:List az)(c:Bool×List ai)(v:Int×List ai×List Int):St:=⟨[(1,.sl 1000000000 d g),(3,.pt 3 0 0),(5,.pt 5 0 0),(9,.sl 9 0 v.2.1.length),(10,.sl 10 0 v.2.2.length),(11,.sl 11 0 c.2.length),(13,.i v.1)],[(3,.var (au .m b)),(5,.var (aQ .o a)),(9,.arr 2 (v.2.1.map (ax .m))),(10,.arr 1 (v.2.2.map AV.i)),(11,.arr 2 (c.2.map (ax .m))),(1000000000,.arr 2 (j.map (aB .u)))]⟩
def EU(a:List az)(v:List ai×List Int):St:=⟨[(9,.sl 9 0 v.1.length),(10,.sl 10 0 v.2.length)],[(9,.arr 2 (v.1.map (ax .m))),(10,.arr 1 (v.2.map AV.i)),(1000000000,.arr 2 (a.map (aB .u)))]⟩
instance(l:ae)(d:Nat)(g:Nat)(p:aM)(b:List az)(q:Bool×List ai):CL (PK l d g p b q) qD [1,3,5,9,10,11,13] [3,5,9,10,11,1000000000] (Wt l d g p b q) (qX 0 [9,10] [9,10,1000000000] (EU b)):=⟨fun a o h=>by
 have e:=ZA @Wt.eq_1 @EU.eq_1;unfold PK at h;simp only[ZC,Wt,qD];obtain⟨s,h⟩|⟨s,h⟩:=aw h
 ·obtain⟨c2,k1,h⟩:=ah h;obtain⟨y,l1,h⟩:=ah h;obtain⟨d2,m1,h⟩:=ah h;have f:=ZA s (ZA (ba k1) l1);refine ZF f ?_;refine ZSG f (CW.w _ m1) ?_;obtain⟨p1,q1,h⟩:=bf h;have s1:sub (b.map (aB .u)) d g=p1.map (aB .u):=by rw[dH,q1]
  obtain⟨t1,u1,h⟩:=ah h;have f:=ZA f s1;refine ZF f ?_;refine ZSG f (CW.w _ u1) ?_;obtain⟨t,h⟩|⟨t,h⟩:=aw h
  ·obtain⟨v,c,h⟩:=bf h;have v1:Row.arr 2 [(.agg [.i y.N,.lst .m 1 (y.F.map AV.i)]:AV)]=Row.arr 2 (v.map (ax .m)):=by rw[<-c];rfl
   have z:v.length=1:=by rw[<-c];rfl
   obtain⟨g2,w1,h⟩:=ah h;have a1:=ba w1;obtain⟨b1,j,h⟩:=bf h;have y1:a.2.1.map (ax .m)++v.map (ax .m)=b1.map (ax .m):=by rw[<-j,A4]
   have c1:a.2.1.length+1=b1.length:=by simp[<-c,<-j]<;>omega
   rw[c1] at a1;obtain⟨w,k,h⟩:=bf h;have z1:Row.arr 1 [(.i t1:AV)]=Row.arr 1 (w.map AV.i):=by rw[<-k];rfl
   have d1:w.length=1:=by rw[<-k];rfl
   obtain⟨i2,a2,h⟩:=ah h;have g1:=ba a2;obtain⟨i1,x,h⟩:=bf h;have b2:a.2.2.map AV.i++w.map AV.i=i1.map AV.i:=by rw[<-x,A4]
   have j1:a.2.2.length+1=i1.length:=by simp[<-c,<-j,<-k,<-x]<;>omega
   rw[j1] at g1;cases h;exact ZL (ZA f (ZA t (ZA v1 (ZA z (ZA a1 (ZA y1 (ZA c1 (ZA z1 (ZA d1 (ZA g1 (ZA b2 j1))))))))))) (ZA e (ZA c.symm (ZA j.symm (ZA k.symm (ZA x.symm (ZA z d1))))))
  ·cases h;exact ZL (ZA f t) e
 ·cases h;exact ZL s e⟩
instance(c:ae)(g:Nat)(j:Nat)(a:aM)(k:List az):CW (QP c g j a k) (fun(r:Bool×List ai×List Int×List az)=>OkM A1 184 [(au .m c),.sl 1000000000 g j,(aQ .o a)] [(1000000000,.arr 2 (k.map (aB .u)))] (.tup [.sl 6 0 r.2.1.length,.sl 7 0 r.2.2.1.length,.b r.1]) ([(6,.arr 2 (r.2.1.map (ax .m))),(7,.arr 1 (r.2.2.1.map AV.i)),(1000000000,.arr 2 (r.2.2.2.map (aB .u)))])):=⟨fun r h=>by
 refine aZ (lr:=[6,7,1000000000]) br adi rfl rfl ?_;unfold QP at h;simp only[ZC,Mx,fd];obtain⟨l,p,h⟩:=ah h;refine ZF trivial ?_;refine ZWG trivial (CW.w _ p) [6] [2400006] ?_;obtain⟨d,h⟩|⟨d,h⟩:=aw h
 ·cases h;exact ZL d @fd.eq_1
 ·obtain⟨s,q,h⟩:=ah h;try refine ZF d ?_
  refine aD (bb (aJ CL.w q ?_)) ?_
  ·exact ZK (ZA @Wt.eq_1 @EU.eq_1)
  ·simp only[ZC,EU,yT];cases h;exact ZL d @fd.eq_1⟩
instance(c:ae)(g:Nat)(j:Nat)(a:aM)(k:List az):CW (Pi c g j a k) (fun(r:Bool×List ai×List Int×List az)=>OkM A1 121 [(au .m c),.sl 1000000000 g j,(aQ .o a)] [(1000000000,.arr 2 (k.map (aB .u)))] (.tup [.sl 6 0 r.2.1.length,.sl 7 0 r.2.2.1.length,.b r.1]) ([(6,.arr 2 (r.2.1.map (ax .m))),(7,.arr 1 (r.2.2.1.map AV.i)),(1000000000,.arr 2 (r.2.2.2.map (aB .u)))])):=⟨fun r h=>by
 refine aZ (lr:=[6,7,1000000000]) br YL rfl rfl ?_;unfold Pi at h;simp only[ZC,ND,fd];obtain⟨q,t,h⟩:=ah h;try refine ZF trivial ?_
 refine aD (sh:=(fun v=>⟨[(1,.sl 1000000000 g j),(3,.pt 3 0 0),(5,.pt 5 0 0),(22,.b v)],[(3,.var (au .m c)),(5,.var (aQ .o a)),(1000000000,.arr 2 (k.map (aB .u)))]⟩)) (s:=q) ?_ ?_
 ·replace h:=t;obtain⟨g1,w,h⟩:=ah h;refine ZF trivial ?_;refine ZSG trivial (CW.w _ w) ?_;obtain⟨l,h⟩|⟨l,h⟩:=aw h
  ·cases h;exact ZL l trivial
  ·obtain⟨x,y,h⟩:=bf h;have a1:sub (k.map (aB .u)) g j=x.map (aB .u):=by rw[dH,y]
   obtain⟨i1,b1,h⟩:=ah h;have f:=ZA l a1;refine ZF f ?_;refine ZSG f (CW.w _ b1) ?_;obtain⟨p,h⟩|⟨p,h⟩:=aw h
   ·cases h;exact ZL (ZA f p) trivial
   ·obtain⟨j1,c1,h⟩:=ah h;have f:=ZA f p;refine ZF f ?_;refine ZSG f (CW.w _ c1) ?_;cases h;exact ZL f trivial
 ·simp only[ZC,zM];obtain⟨d,h⟩|⟨d,h⟩:=aw h
  ·cases h;exact ZL d @fd.eq_1
  ·obtain⟨k1,d1,h⟩:=ah h;refine ZF d ?_;refine ZWG d (CW.w _ d1) [6,7,1000000000] [2900006,2900007] ?_;cases h;exact ZL d @fd.eq_1⟩
instance(d:ae)(j:Nat)(k:Nat)(c:aM)(l:List az):CW (FT d j k c l) (fun(r:ai×ai×Bool×List az)=>OkM A1 44 [(au .m d),.sl 1000000000 j k,(aQ .o c)] [(1000000000,.arr 2 (l.map (aB .u)))] (.tup [.agg [.i ((r.1).N),.lst .m 1 (((r.1).F).map AV.i)],.agg [.i ((r.2.1).N),.lst .m 1 (((r.2.1).F).map AV.i)],.b r.2.2.1]) ([(1000000000,.arr 2 (r.2.2.2.map (aB .u)))])):=⟨fun r h=>by
 refine aZ (lr:=[1000000000]) br agt rfl rfl ?_;unfold FT at h;simp only[ZC,Yf,zg];obtain⟨x,p,h⟩:=ah h;refine ZF trivial ?_;refine ZWG trivial (CW.w _ p) [6,7,1000000000] [1900006,1900007] ?_;obtain⟨a,h⟩|⟨a,h⟩:=aw h
 ·cases h;exact ZL a @zg.eq_1
 ·obtain⟨y,q,h⟩:=ah h;refine ZF a ?_;refine ZUG a (CW.w _ q) ?_;obtain⟨g,h⟩|⟨g,h⟩:=aw h
  ·cases h;exact ZL (ZA a g) @zg.eq_1
  ·obtain⟨a1,s,h⟩:=ah h;obtain⟨b1,t,h⟩:=ah h;obtain⟨c1,v,h⟩:=ah h;obtain⟨d1,w,h⟩:=ah h;cases h;exact ZL (ZA a (ZA g (ZA (ba s) (ZA t (ZA (ba v) w))))) @zg.eq_1⟩
def TH(b:ae)(a:af)(d:Int)(g:Int)(c:List af)(v:Int×af):St:=⟨[(1,.sl 1000000000 0 c.length),(3,.i d),(4,.i g),(5,.pt 5 0 0),(7,.pt 7 0 0),(10,.pt 10 0 0),(12,.pt 12 0 0),(13,.i v.1)],[(5,.var (au .m b)),(7,.var (aj .m a)),(10,.var (.agg [.i 0,.i 0,.i 0,.lst .u 1 [],.i 0,.i 0,.i 0,.lst .u 1 [],.i 0,.i 0])),(12,.var (.agg [.i ((v.2).Id),.i ((v.2).W),.i (((v.2).N).N),.lst .m 1 ((((v.2).N).F).map AV.i),.i (((v.2).P).N),.i (((v.2).P).F),.i (((v.2).F).N),.lst .u 1 ((((v.2).F).F).map AV.i),.i (((v.2).L).N),.i (((v.2).L).F)])),(1000000000,.arr 10 (c.map (aj .u)))]⟩
def DY(b:ae)(a:af)(d:Int)(c:List af)(v:af):St:=⟨[(1,.sl 1000000000 0 c.length),(4,.i d),(5,.pt 5 0 0),(7,.pt 7 0 0),(10,.pt 10 0 0),(12,.pt 12 0 0)],[(5,.var (au .m b)),(7,.var (aj .m a)),(10,.var (.agg [.i 0,.i 0,.i 0,.lst .u 1 [],.i 0,.i 0,.i 0,.lst .u 1 [],.i 0,.i 0])),(12,.var (.agg [.i ((v).Id),.i ((v).W),.i (((v).N).N),.lst .m 1 ((((v).N).F).map AV.i),.i (((v).P).N),.i (((v).P).F),.i (((v).F).N),.lst .u 1 ((((v).F).F).map AV.i),.i (((v).L).N),.i (((v).L).F)])),(1000000000,.arr 10 (c.map (aj .u)))]⟩
instance(c:ae)(d:af)(j:Int)(g:List af):CX (Af c d j g) vU [1,3,4,5,7,10,12,13] [5,7,10,12,1000000000] (Int) (fun k=>(TH c d j k g)) (fun k=>(qS (qX 0 [1,4,5,7,10,12] [5,7,10,12,1000000000] (DY c d k g)) (qM oT [1000000000] (fun(r:af×Bool×List af)=>.tup [.agg [.i ((r.1).Id),.i ((r.1).W),.i (((r.1).N).N),.lst .m 1 ((((r.1).N).F).map AV.i),.i (((r.1).P).N),.i (((r.1).P).F),.i (((r.1).F).N),.lst .m 1 ((((r.1).F).F).map AV.i),.i (((r.1).L).N),.i (((r.1).L).F)],.b r.2.1]) (fun(r:af×Bool×List af)=>[(1000000000,.arr 10 (r.2.2.map (aj .u)))])))):=⟨fun k p o h=>by
 have e:=ZA @TH.eq_1 @DY.eq_1;unfold Af at h;simp only[ZC,TH,vU];obtain⟨a,h⟩|⟨a,h⟩:=aw h
 ·cases h;exact ZL a @oT.eq_1
 ·obtain⟨s,q,h⟩:=ah h;refine ZF a ?_;refine ZSG a (CW.w _ q) ?_;obtain⟨l,h⟩|⟨l,h⟩:=aw h
  ·cases h;exact ZL (ZA a l) e
  ·cases h;exact ZL (ZA a l) e⟩
def Xm(a:ae)(c:Int)(b:List af)(v:Int×af):St:=⟨[(1,.sl 1000000000 0 b.length),(4,.i c),(5,.pt 5 0 0),(7,.pt 7 0 0),(10,.pt 10 0 0),(14,.i v.1)],[(5,.var (au .m a)),(7,.var (aj .m v.2)),(10,.var (.agg [.i 0,.i 0,.i 0,.lst .u 1 [],.i 0,.i 0,.i 0,.lst .u 1 [],.i 0,.i 0])),(1000000000,.arr 10 (b.map (aj .u)))]⟩
def DN(a:List af)(v:af):St:=⟨[(7,.pt 7 0 0),(10,.pt 10 0 0)],[(7,.var (aj .m v)),(10,.var (.agg [.i 0,.i 0,.i 0,.lst .u 1 [],.i 0,.i 0,.i 0,.lst .u 1 [],.i 0,.i 0])),(1000000000,.arr 10 (a.map (aj .u)))]⟩
instance(d:ae)(g:Int)(c:List af):CL (wX d g c) wQ [1,4,5,7,10,14] [5,7,10,1000000000] (Xm d g c) (qS (qX 2 [7,10] [7,10,1000000000] (DN c)) (qM oT [1000000000] (fun(r:af×Bool×List af)=>.tup [.agg [.i ((r.1).Id),.i ((r.1).W),.i (((r.1).N).N),.lst .m 1 ((((r.1).N).F).map AV.i),.i (((r.1).P).N),.i (((r.1).P).F),.i (((r.1).F).N),.lst .m 1 ((((r.1).F).F).map AV.i),.i (((r.1).L).N),.i (((r.1).L).F)],.b r.2.1]) (fun(r:af×Bool×List af)=>[(1000000000,.arr 10 (r.2.2.map (aj .u)))]))):=⟨fun k o h=>by
 have e:=ZA @Xm.eq_1 @DN.eq_1;unfold wX at h;simp only[ZC,Xm,wQ];obtain⟨a,h⟩|⟨a,h⟩:=aw h
 ·obtain⟨p,l,h⟩:=ah h;refine ZF a ?_;refine ZSG a (CW.w _ l) ?_;obtain⟨j,h⟩|⟨j,h⟩:=aw h
  ·cases h;exact ZL (ZA a j) @oT.eq_1
  ·cases h;exact ZL (ZA a j) e
 ·cases h;exact ZL a e⟩
instance(c:ae)(a:af)(k:Int)(g:Int)(d:List af):CW (Gd c a k g d) (fun(r:af×Bool×List af)=>OkM A1 92 [(au .m c),.sl 1000000000 0 d.length,(aj .m a),.i k,.i g] [(1000000000,.arr 10 (d.map (aj .u)))] (.tup [.agg [.i ((r.1).Id),.i ((r.1).W),.i (((r.1).N).N),.lst .m 1 ((((r.1).N).F).map AV.i),.i (((r.1).P).N),.i (((r.1).P).F),.i (((r.1).F).N),.lst .m 1 ((((r.1).F).F).map AV.i),.i (((r.1).L).N),.i (((r.1).L).F)],.b r.2.1]) ([(1000000000,.arr 10 (r.2.2.map (aj .u)))])):=⟨fun r h=>by
 refine aZ (lr:=[1000000000]) br aey rfl rfl ?_;unfold Gd at h;simp only[ZC,Xr,oT];obtain⟨l,p,h⟩:=ah h;try refine ZF trivial ?_
 refine bW (o:=l) (co yG (aJ (CX.w g) p ?_)) (fun w hv=>?_) (fun x hv e τ hne hq=>?_)
 ·exact ZK (ZA @TH.eq_1 @DY.eq_1)
 ·subst hv;simp only[] at h;simp only[ZC,DY,EK];obtain⟨j,h⟩|⟨j,h⟩:=aw h
  ·cases h;exact ZL j @oT.eq_1
  ·obtain⟨q,s,h⟩:=ah h;try refine ZF j ?_
   refine bW (o:=q) (co yG (aJ CL.w s ?_)) (fun y hv=>?_) (fun a1 hv e τ hne hq=>?_)
   ·exact ZK (ZA @Xm.eq_1 @DN.eq_1)
   ·subst hv;simp only[] at h;simp only[ZC,DN,Fw];cases h;exact ZL j @oT.eq_1
   ·subst hv;simp only[] at h;obtain⟨rfl,t⟩:=hq;cases h;exact t
 ·subst hv;simp only[] at h;obtain⟨rfl,v⟩:=hq;cases h;exact v⟩
instance(a:ai):CW (KJ a) (fun(r:ai)=>Ok A1 214 [(ax .o a)] (.agg [.i r.N,.lst .u 1 (r.F.map AV.i)])):=⟨fun r h=>ZO m214 (KJ.eq_1 _) trivial (ZA @V32.eq_1 @A214.eq_1) h⟩
instance(a:af):CW (ze a) (fun(r:af)=>Ok A1 167 [(aj .o a)] (.agg [.i r.Id,.i r.W,.i r.N.N,.lst .u 1 (r.N.F.map AV.i),.i r.P.N,.i r.P.F,.i r.F.N,.lst .u 1 (r.F.F.map AV.i),.i r.L.N,.i r.L.F])):=⟨fun r h=>by
 refine aL br m167 rfl ?_;unfold ze at h;simp only[ZC,A167,Ic,aY];obtain⟨d,b,h⟩:=ah h;refine ZF trivial ?_;refine ZUG trivial (CW.w _ b) ?_;obtain⟨g,c,h⟩:=ah h;refine ZF trivial ?_;refine ZUG trivial (CW.w _ c) ?_;cases h;exact ZL trivial @Ic.eq_1⟩
def wV(b:List af)(a:af)(v:Int×List af):St:=⟨[(0,.lst .o 10 (b.map (aj .o))),(3,.pt 3 0 0),(5,.sl 5 0 v.2.length),(6,.i v.1)],[(3,.var (aj .o a)),(5,.arr 10 (v.2.map (aj .u)))]⟩
instance(g:List af)(a:af):CL (yt g a) NQ [0,3,5,6] [3,5] (wV g a) (qX 0 [0,3,5,6] [3,5] (wV g a)):=⟨fun d o h=>by
 have e:=ZA @wV.eq_1 @wV.eq_1;unfold yt at h;simp only[ZC,wV,NQ];obtain⟨y,z,h⟩:=ah h;try refine ZF trivial ?_
 refine aD (sh:=(fun v=>⟨[(0,.lst .o 10 (g.map (aj .o))),(3,.pt 3 0 0),(5,.sl 5 0 d.2.length),(6,.i d.1),(21,.b v)],[(3,.var (aj .o a)),(5,.arr 10 (d.2.map (aj .u)))]⟩)) (s:=y) ?_ ?_
 ·replace h:=z;obtain⟨k,h⟩|⟨k,h⟩:=aw h
  ·obtain⟨j1,a1,h⟩:=ah h;cases h;exact ZL (ZA k (bc a1)) trivial
  ·cases h;exact ZL k trivial
 ·simp only[ZC,Yh];obtain⟨l,h⟩|⟨l,h⟩:=aw h
  ·obtain⟨k1,b1,h⟩:=ah h;obtain⟨c,c1,h⟩:=ah h;have f:=ZA l (bc b1);refine ZF f ?_;refine ZUG f (CW.w _ c1) ?_;obtain⟨m,j,h⟩:=bf h;have d1:Row.arr 10 [(.agg [.i c.Id,.i c.W,.i c.N.N,.lst .u 1 (c.N.F.map AV.i),.i c.P.N,.i c.P.F,.i c.F.N,.lst .u 1 (c.F.F.map AV.i),.i c.L.N,.i c.L.F]:AV)]=Row.arr 10 (m.map (aj .u)):=by rw[<-j];rfl
   have q:m.length=1:=by rw[<-j];rfl
   obtain⟨l1,g1,h⟩:=ah h;have t:=ba g1;obtain⟨w,p,h⟩:=bf h;have i1:d.2.map (aj .u)++m.map (aj .u)=w.map (aj .u):=by rw[<-p,A4]
   have x:d.2.length+1=w.length:=by simp[<-j,<-p]<;>omega
   rw[x] at t;cases h;exact ZL (ZA f (ZA d1 (ZA q (ZA t (ZA i1 x))))) (ZA e (ZA j.symm (ZA p.symm q)))
  ·cases h;exact ZL l e⟩
def TF(a:List af)(v:Int×List af):St:=⟨[(0,.lst .o 10 (a.map (aj .o))),(5,.sl 5 0 v.2.length),(6,.i v.1)],[(5,.arr 10 (v.2.map (aj .u)))]⟩
def DI(v:List af):St:=⟨[(5,.sl 5 0 v.length)],[(5,.arr 10 (v.map (aj .u)))]⟩
instance(d:List af):CL (Cw d) Nc [0,5,6] [5] (TF d) (qX 2 [5] [5] (DI)):=⟨fun b o h=>by
 have e:=ZA @TF.eq_1 @DI.eq_1;unfold Cw at h;simp only[ZC,TF,Nc];obtain⟨g,h⟩|⟨g,h⟩:=aw h
 ·obtain⟨y,s,h⟩:=ah h;obtain⟨a,t,h⟩:=ah h;have f:=ZA g (bc s);refine ZF f ?_;refine ZUG f (CW.w _ t) ?_;obtain⟨j,c,h⟩:=bf h;have v:Row.arr 10 [(.agg [.i a.Id,.i a.W,.i a.N.N,.lst .u 1 (a.N.F.map AV.i),.i a.P.N,.i a.P.F,.i a.F.N,.lst .u 1 (a.F.F.map AV.i),.i a.L.N,.i a.L.F]:AV)]=Row.arr 10 (j.map (aj .u)):=by rw[<-c];rfl
  have l:j.length=1:=by rw[<-c];rfl
  obtain⟨z,w,h⟩:=ah h;have m:=ba w;obtain⟨p,k,h⟩:=bf h;have x:b.2.map (aj .u)++j.map (aj .u)=p.map (aj .u):=by rw[<-k,A4]
  have q:b.2.length+1=p.length:=by simp[<-c,<-k]<;>omega
  rw[q] at m;cases h;exact ZL (ZA f (ZA v (ZA l (ZA m (ZA x q))))) (ZA e (ZA c.symm (ZA k.symm l)))
 ·cases h;exact ZL g e⟩
instance(c:List af)(a:af):CW (Hu c a) (fun(r:List af)=>Ok A1 93 [.lst .o 10 (c.map (aj .o)),(aj .o a)] (.lst .u 10 (r.map (aj .u)))):=⟨fun r h=>by
 refine aL br m93 rfl ?_;unfold Hu at h;simp only[ZC,A93,aO,aY];obtain⟨l,s,h⟩:=ah h;try refine ZF trivial ?_
 refine aD (bb (aJ CL.w s ?_)) ?_
 ·exact ZK (ZA @wV.eq_1 @wV.eq_1)
 ·simp only[ZC,wV,Yr];obtain⟨b,t,h⟩:=ah h;refine ZF trivial ?_;refine ZUG trivial (CW.w _ t) ?_;obtain⟨g,d,h⟩:=bf h;have v:Row.arr 10 [(.agg [.i b.Id,.i b.W,.i b.N.N,.lst .u 1 (b.N.F.map AV.i),.i b.P.N,.i b.P.F,.i b.F.N,.lst .u 1 (b.F.F.map AV.i),.i b.L.N,.i b.L.F]:AV)]=Row.arr 10 (g.map (aj .u)):=by rw[<-d];rfl
  have j:g.length=1:=by rw[<-d];rfl
  obtain⟨z,w,h⟩:=ah h;have m:=ba w;obtain⟨p,k,h⟩:=bf h;have x:l.2.map (aj .u)++g.map (aj .u)=p.map (aj .u):=by rw[<-k,A4]
  have q:l.2.length+1=p.length:=by simp[<-d,<-k]<;>omega
  rw[q] at m;obtain⟨a1,y,h⟩:=ah h;have f:=ZA v (ZA j (ZA m (ZA x q)));try refine ZF f ?_
  refine aD (bb (aJ CL.w y ?_)) ?_
  ·exact ZK (ZA @TF.eq_1 (ZA @DI.eq_1 (ZA d.symm (ZA k.symm j))))
  ·simp only[ZC,DI,XO];cases h;exact ZL f (ZA @aO.eq_1 j)⟩
def S_j(a:aM)(d:List ByteArray)(g:List aG)(b:List az)(c:List af)(v:Int×af):St:=⟨[(1,.sl 1000000002 0 b.length),(2,.sl 1000000003 0 c.length),(4,.pt 4 0 0),(7,.pt 7 0 0),(11,.sl 11 0 0),(12,.pt 12 0 0),(13,.i v.1)],[(4,.var (.agg [.lst .m 1 (d.map AV.z),.lst .m 4 (g.map (aF .m))])),(7,.var (aQ .o a)),(11,.arr 10 []),(12,.var (aj .m v.2)),(1000000002,.arr 2 (b.map (aB .u))),(1000000003,.arr 10 (c.map (aj .u)))]⟩
def TQ(a:aM)(d:List ByteArray)(g:List aG)(b:List az)(c:List af)(v:af):St:=⟨[(1,.sl 1000000002 0 b.length),(2,.sl 1000000003 0 c.length),(4,.pt 4 0 0),(7,.pt 7 0 0),(11,.sl 11 0 0),(12,.pt 12 0 0)],[(4,.var (.agg [.lst .m 1 (d.map AV.z),.lst .m 4 (g.map (aF .m))])),(7,.var (aQ .o a)),(11,.arr 10 []),(12,.var (aj .m v)),(1000000002,.arr 2 (b.map (aB .u))),(1000000003,.arr 10 (c.map (aj .u)))]⟩
theorem w_j(c:aM)(j:List ByteArray)(k:List aG)(g:List az)(d:List af)(a:Int×af)(o:(Int×af)⊕af)(h:M_j d a=some o):AWP (OkS A1) wS (qL [1,2,4,7,11,12,13] [4,7,11,12,1000000002,1000000003] (S_j c j k g d) (qX 0 [1,2,4,7,11,12] [4,7,11,12,1000000002,1000000003] (TQ c j k g d)) o) (S_j c j k g d a):=by
 have e:=ZA @S_j.eq_1 @TQ.eq_1;unfold M_j at h;simp only[ZC,S_j,wS];obtain⟨q,t,h⟩:=ah h;try refine ZF trivial ?_
 refine aD (sh:=(fun v=>⟨[(1,.sl 1000000002 0 g.length),(2,.sl 1000000003 0 d.length),(4,.pt 4 0 0),(7,.pt 7 0 0),(11,.sl 11 0 0),(12,.pt 12 0 0),(13,.i a.1),(50,.b v)],[(4,.var (.agg [.lst .m 1 (j.map AV.z),.lst .m 4 (k.map (aF .m))])),(7,.var (aQ .o c)),(11,.arr 10 []),(12,.var (aj .m a.2)),(1000000002,.arr 2 (g.map (aB .u))),(1000000003,.arr 10 (d.map (aj .u)))]⟩)) (s:=q) ?_ ?_
 ·replace h:=t;obtain⟨l,h⟩|⟨l,h⟩:=aw h
  ·obtain⟨y,w,h⟩:=ah h;obtain⟨a1,x,h⟩:=ah h;cases h;exact ZL (ZA l (ZA (ba w) x)) trivial
  ·cases h;exact ZL l trivial
 ·simp only[ZC,Dz];obtain⟨p,h⟩|⟨p,h⟩:=aw h
  ·cases h;exact ZL p e
  ·cases h;exact ZL p e
instance(a:aM)(k:List ByteArray)(l:List aG)(g:List az)(d:List af):CW (IX a k l g d) (fun(r:Int×Bool×List af×List az×List af)=>OkM A1 23 [.agg [.sl 1000000000 0 k.length,.sl 1000000001 0 l.length],.sl 1000000002 0 g.length,.sl 1000000003 0 d.length,(aQ .o a)] [(1000000000,.arr 1 (k.map AV.z)),(1000000001,.arr 4 (l.map (aF .u))),(1000000002,.arr 2 (g.map (aB .u))),(1000000003,.arr 10 (d.map (aj .u)))] (.tup [.sl 8 0 r.2.2.1.length,.i r.1,.b r.2.1]) ([(8,.arr 10 (r.2.2.1.map (aj .u))),(1000000002,.arr 2 (r.2.2.2.1.map (aB .u))),(1000000003,.arr 10 (r.2.2.2.2.map (aj .u)))])):=⟨fun r h=>by
 have e:=@oB.eq_1;refine aZ (lr:=[8,1000000002,1000000003]) br aer rfl rfl ?_;unfold IX at h;simp only[ZC,XH,oB];obtain⟨y,a1,h⟩:=ah h;try refine ZF trivial ?_
 refine aD (sh:=(fun v=>⟨[(1,.sl 1000000002 0 g.length),(2,.sl 1000000003 0 d.length),(4,.pt 4 0 0),(7,.pt 7 0 0),(11,.sl 11 0 0),(32,.b v)],[(4,.var (.agg [.lst .m 1 (k.map AV.z),.lst .m 4 (l.map (aF .m))])),(7,.var (aQ .o a)),(11,.arr 10 []),(1000000002,.arr 2 (g.map (aB .u))),(1000000003,.arr 10 (d.map (aj .u)))]⟩)) (s:=y) ?_ ?_
 ·replace h:=a1;obtain⟨i2,b1,h⟩:=ah h;refine ZF trivial ?_;refine ZSG trivial (CW.w _ b1) ?_;obtain⟨p,h⟩|⟨p,h⟩:=aw h
  ·cases h;exact ZL p trivial
  ·cases h;exact ZL p trivial
 ·simp only[ZC,DA];obtain⟨j,h⟩|⟨j,h⟩:=aw h
  ·cases h;exact ZL j e
  ·obtain⟨j2,c1,h⟩:=ah h;try refine ZF j ?_
   refine aD (bb (aJ (w_j a k l g d) c1 ?_)) ?_
   ·exact ZK (ZA @S_j.eq_1 @TQ.eq_1)
   ·simp only[ZC,TQ,Eg];obtain⟨k2,d1,h⟩:=ah h;refine ZF j ?_;refine ZWG j (CW.w _ d1) [1000000000] [] ?_;obtain⟨c,g1,h⟩:=ah h;try refine ZF j ?_
    refine aD (sh:=(fun v=>⟨[(1,.sl 1000000002 0 g.length),(2,.sl 1000000003 0 d.length),(4,.pt 4 0 0),(7,.pt 7 0 0),(11,.sl 11 0 0),(12,.pt 12 0 0),(14,.pt 14 0 0),(16,.b v.1),(17,.i 0)],[(4,.var (.agg [.lst .m 1 (k.map AV.z),.lst .m 4 (l.map (aF .m))])),(7,.var (aQ .o a)),(11,.arr 10 []),(12,.var (aj .m v.2.1)),(14,.var (ax .m v.2.2.1)),(1000000002,.arr 2 (v.2.2.2.map (aB .u))),(1000000003,.arr 10 (d.map (aj .u)))]⟩)) (s:=c) ?_ ?_
    ·replace h:=g1;obtain⟨q,h⟩|⟨q,h⟩:=aw h
     ·obtain⟨l2,i1,h⟩:=ah h;have f:=ZA j q;refine ZF f ?_;refine ZWG f (CW.w _ i1) [1000000000] [] ?_;cases h;exact ZL f trivial
     ·cases h;exact ZL (ZA j q) trivial
    ·simp only[ZC,DH];obtain⟨t,h⟩|⟨t,h⟩:=aw h
     ·cases h;exact ZL (ZA j t) e
     ·obtain⟨j1,k1,h⟩:=ah h;have f:=ZA j t;try refine ZF f ?_
      refine aD (sh:=(fun v=>⟨[(1,.sl 1000000002 0 g.length),(2,.sl 1000000003 0 d.length),(4,.pt 4 0 0),(7,.pt 7 0 0),(11,.sl 11 0 0),(12,.pt 12 0 0),(14,.pt 14 0 0),(17,.i v)],[(4,.var (.agg [.lst .m 1 (k.map AV.z),.lst .m 4 (l.map (aF .m))])),(7,.var (aQ .o a)),(11,.arr 10 []),(12,.var (aj .m c.2.1)),(14,.var (ax .m c.2.2.1)),(1000000002,.arr 2 (c.2.2.2.map (aB .u))),(1000000003,.arr 10 (d.map (aj .u)))]⟩)) (s:=j1) ?_ ?_
      ·replace h:=k1;obtain⟨w,h⟩|⟨w,h⟩:=aw h
       ·obtain⟨m2,l1,h⟩:=ah h;have f:=ZA f w;refine ZF f ?_;refine ZSG f (CW.w _ l1) ?_;obtain⟨m1,p1,h⟩:=bf h;have q1:sub (c.2.2.2.map (aB .u)) 0 g.length=m1.map (aB .u):=by rw[dH,p1]
        obtain⟨p2,s1,h⟩:=ah h;have f:=ZA f q1;refine ZF f ?_;refine ZSG f (CW.w _ s1) ?_;cases h;exact ZL f trivial
       ·cases h;exact ZL (ZA f w) trivial
      ·simp only[ZC,Fg];obtain⟨q2,t1,h⟩:=ah h;refine ZF f ?_;refine ZSG f (CW.w _ t1) ?_;obtain⟨u1,v1,h⟩:=bf h;have w1:sub (c.2.2.2.map (aB .u)) 0 g.length=u1.map (aB .u):=by rw[dH,v1]
       obtain⟨s2,y1,h⟩:=ah h;have f:=ZA f w1;refine ZF f ?_;refine ZSG f (CW.w _ y1) ?_;obtain⟨z1,a2,h⟩:=ah h;refine ZF f ?_;refine ZWG f (CW.w _ a2) [1000000000] [] ?_;obtain⟨x,h⟩|⟨x,h⟩:=aw h
       ·cases h;exact ZL (ZA f x) e
       ·obtain⟨b2,c2,h⟩:=bf h;have d2:sub (z1.2.2.map (aj .u)) 0 d.length=b2.map (aj .u):=by rw[dH,c2]
        obtain⟨t2,g2,h⟩:=ah h;have f:=ZA f (ZA x d2);refine ZF f ?_;refine ZUG f (CW.w _ g2) ?_;cases h;exact ZL f e⟩
instance(c:Int)(d:Int)(g:Int):CW (M_g c d g) (fun(r:Bool)=>Ok A1 76 [.i c,.i d,.i g] (.b r)):=⟨fun r h=>ZO m76 (M_g.eq_1 _ _ _) trivial (ZA @dx.eq_1 @A76.eq_1) h⟩
def Xn(a:ByteArray)(v:Int):St:=⟨[(0,.z a),(7,.i (a.size:Int)),(8,.i v)],[]⟩
def Qq(a:ByteArray)(v:Unit):St:=⟨[(0,.z a)],[]⟩
instance(c:ByteArray):CL (IW c) wF [0,7,8] [] (Xn c) (qS (qX 0 [0] [] (Qq c)) (qR bL (fun r=>.b r))):=⟨fun j o h=>by
 unfold IW at h;simp only[ZC,Xn,wF];exact ZT ZJ (ZA @Xn.eq_1 (ZA @Qq.eq_1 (ZA @bL.eq_1 (ZA @wF.eq_1 @ML.eq_1)))) h⟩
instance(a:ByteArray):CW (Qh a) (fun(r:Bool)=>Ok A1 147 [.z a] (.b r)):=⟨fun r h=>ZO m147 (Qh.eq_1 _) ZJ (ZA @Xn.eq_1 (ZA @Qq.eq_1 (ZA @OV.eq_1 (ZA @bL.eq_1 @A147.eq_1)))) h⟩
def Sg(a:List ByteArray)(b:ByteArray)(v:Int):St:=⟨[(0,.lst .o 1 (a.map AV.z)),(1,.z b),(7,.i (a.length:Int)),(8,.i v)],[]⟩
instance(b:List ByteArray)(c:ByteArray):CL (IU b c) we [0,1,7,8] [] (Sg b c) (qS (qX 0 [] [] (ce)) (qR aO (fun r=>.i r))):=⟨fun g o h=>by
 unfold IU at h;simp only[ZC,Sg,we];exact ZT trivial (ZA @Sg.eq_1 (ZA @ce.eq_1 (ZA @aO.eq_1 @we.eq_1))) h⟩
instance(a:List ByteArray)(b:ByteArray):CW (US a b) (fun(r:Int)=>Ok A1 206 [.lst .o 1 (a.map AV.z),.z b] (.i r)):=⟨fun r h=>ZO m206 (US.eq_1 _ _) ZJ (ZA @Sg.eq_1 (ZA @ce.eq_1 (ZA @PS.eq_1 (ZA @aO.eq_1 @A206.eq_1)))) h⟩
instance(a:List ByteArray)(c:ByteArray):CW (Ms a c) (fun(r:Bool)=>Ok A1 148 [.lst .o 1 (a.map AV.z),.z c] (.b r)):=⟨fun r h=>ZO m148 (Ms.eq_1 _ _) trivial (ZA @aO.eq_1 @A148.eq_1) h⟩
instance(a:Int):CW (Jw a) (fun(r:Bool)=>Ok A1 224 [.i a] (.b r)):=⟨fun r h=>ZO m224 (Jw.eq_1 _) trivial (ZA @bL.eq_1 @A224.eq_1) h⟩
instance(j:Int)(k:Int):CW (lj j k) (fun(r:Int)=>Ok A1 189 [.i j,.i k] (.i r)):=⟨fun r h=>ZO m189 (lj.eq_1 _ _) trivial (ZA @adf.eq_1 (ZA @aO.eq_1 @adf.eq_1)) h⟩
def S_m(a:List Int)(v:Int):St:=⟨[(3,.i 0),(6,.lst .o 1 (a.map AV.i)),(7,.i (a.length:Int)),(8,.i v)],[]⟩
def aca(v:Unit):St:=⟨[(3,.i 0)],[]⟩
instance(b:List Int):CL (M_m b) wg [3,6,7,8] [] (S_m b) (qS (qX 0 [3] [] (aca)) (qR bL (fun r=>.i r))):=⟨fun d o h=>by
 unfold M_m at h;simp only[ZC,S_m,wg];exact ZT trivial (ZA @S_m.eq_1 (ZA @aca.eq_1 (ZA @bL.eq_1 @wg.eq_1))) h⟩
instance(a:List Int):CW (nW a) (fun(r:Int)=>Ok A1 188 [.lst .o 1 (a.map AV.i)] (.i r)):=⟨fun r h=>ZO m188 (nW.eq_1 _) ZJ (ZA @S_m.eq_1 (ZA @aca.eq_1 (ZA @Kp.eq_1 (ZA @bL.eq_1 @A188.eq_1)))) h⟩
instance(a:aG)(b:aG):CW (QI a b) (fun(r:Int)=>Ok A1 149 [(aF .o a),(aF .o b)] (.i r)):=⟨fun r h=>ZO m149 (QI.eq_1 _ _) ZJB (ZA @aO.eq_1 @A149.eq_1) h⟩
def SA(a:ae)(v:Int):St:=⟨[(1,.pt 1 0 0),(8,.lst .o 1 (a.N.map AV.z)),(9,.i (a.N.length:Int)),(10,.i v)],[(1,.var (au .o a))]⟩
instance(a:ae):CL (FX a) Pw [1,8,9,10] [1] (SA a) (qS (qX 0 [1] [1] (yN a)) (qR bL (fun r=>.b r))):=⟨fun i o h=>by
 unfold FX at h;simp only[ZC,SA,Pw];exact ZT trivial (ZA @bL.eq_1 (ZA @SA.eq_1 @yN.eq_1)) h⟩
def Xo(a:ae)(v:Int):St:=⟨[(1,.pt 1 0 0),(28,.lst .o 4 (a.F.map (aF .o))),(29,.i (a.F.length:Int)),(30,.i v)],[(1,.var (au .o a))]⟩
instance(d:ae):CL (Jp d) Ef [1,28,29,30] [1] (Xo d) (qS (qX 2 [1] [1] (yN d)) (qR bL (fun r=>.b r))):=⟨fun q o h=>by
 unfold Jp at h;simp only[ZC,Xo,Ef];exact ZT trivial (ZA @bL.eq_1 (ZA @Xo.eq_1 (ZA @yN.eq_1 @Ef.eq_1))) h⟩
instance(a:ae):CW (Dh a) (fun(r:Bool)=>Ok A1 81 [(au .o a)] (.b r)):=⟨fun r h=>ZO m81 (Dh.eq_1 _) ZJ (ZA @SA.eq_1 (ZA @yN.eq_1 (ZA @Xo.eq_1 (ZA @XP.eq_1 (ZA @XN.eq_1 (ZA @bL.eq_1 @A81.eq_1)))))) h⟩
instance(a:aG)(d:Int):CW (AJ a d) (fun(r:Int)=>Ok A1 215 [(aF .o a),.i d] (.i r)):=⟨fun r h=>ZO m215 (AJ.eq_1 _ _) trivial (ZA @aO.eq_1 @A215.eq_1) h⟩
def Ul(a:List Int)(b:Int)(v:Int):St:=⟨[(0,.lst .o 1 (a.map AV.i)),(1,.i b),(7,.i (a.length:Int)),(8,.i v)],[]⟩
instance(b:List Int)(c:Int):CL (Gf b c) wv [0,1,7,8] [] (Ul b c) (qS (qX 0 [] [] (ce)) (qR aO (fun r=>.i r))):=⟨fun g o h=>by
 unfold Gf at h;simp only[ZC,Ul,wv];exact ZT trivial (ZA @Ul.eq_1 (ZA @ce.eq_1 (ZA @aO.eq_1 @wv.eq_1))) h⟩
instance(a:List Int)(b:Int):CW (UG a b) (fun(r:Int)=>Ok A1 139 [.lst .o 1 (a.map AV.i),.i b] (.i r)):=⟨fun r h=>ZO m139 (UG.eq_1 _ _) ZJ (ZA @Ul.eq_1 (ZA @ce.eq_1 (ZA @Rx.eq_1 (ZA @aO.eq_1 @A139.eq_1)))) h⟩
instance(a:List Int)(c:Int):CW (Co a c) (fun(r:Bool)=>Ok A1 68 [.lst .o 1 (a.map AV.i),.i c] (.b r)):=⟨fun r h=>ZO m68 (Co.eq_1 _ _) trivial (ZA @aO.eq_1 @A68.eq_1) h⟩
def Wa(a:ae)(b:ai)(v:Int×Int×List Int):St:=⟨[(2,.pt 2 0 0),(6,.sl 6 0 v.2.2.length),(7,.i v.1),(30,.lst .o 1 (b.F.map AV.i)),(31,.i (b.F.length:Int)),(32,.i v.2.1)],[(2,.var (au .o a)),(6,.arr 1 (v.2.2.map AV.i))]⟩
instance(c:ae)(d:ai):CL (Ir c d) BK [2,6,7,30,31,32] [2,6] (Wa c d) (qS (qX 0 [6] [6] (HB)) (qR nD (fun r=>.tup [.lst .u 1 (r.1.map AV.i),.b r.2]))):=⟨fun a o h=>by
 unfold Ir at h;simp only[ZC,Wa,BK];exact ZT ZJB (ZA @nD.eq_1 (ZA @Wa.eq_1 (ZA @HB.eq_1 @PL.eq_1))) h⟩
instance(c:ae)(a:ai):CW (Gm c a) (fun(r:List Int×Bool)=>Ok A1 168 [(au .o c),(ax .o a)] (.tup [.lst .u 1 (r.1.map AV.i),.b r.2])):=⟨fun r h=>ZO m168 (Gm.eq_1 _ _) ZJB (ZA @Wa.eq_1 (ZA @HB.eq_1 (ZA @Km.eq_1 (ZA @NE.eq_1 (ZA @nD.eq_1 @A168.eq_1))))) h⟩
instance(c:aH):CW (Hb c) (fun(r:Bool)=>Ok A1 169 [(bD .o c)] (.b r)):=⟨fun r h=>ZO m169 (Hb.eq_1 _) trivial (ZA @bL.eq_1 @A169.eq_1) h⟩
def VD(a:ae)(b:Int×List (List Int))(v:Int×List Int):St:=⟨[(1,.pt 1 0 0),(3,.sl 3 0 b.2.length),(4,.i b.1),(5,.sl 5 0 v.2.length),(17,.lst .o 4 (a.F.map (aF .o))),(18,.i (a.F.length:Int)),(19,.i v.1)],[(1,.var (au .o a)),(3,.arr 1 (b.2.map (fy .u))),(5,.arr 1 (v.2.map AV.i))]⟩
def Fa(b:ae)(a:Int×List (List Int))(v:List Int):St:=⟨[(1,.pt 1 0 0),(3,.sl 3 0 a.2.length),(4,.i a.1),(5,.sl 5 0 v.length)],[(1,.var (au .o b)),(3,.arr 1 (a.2.map (fy .u))),(5,.arr 1 (v.map AV.i))]⟩
instance(b:ae)(c:Int×List (List Int)):CL (Iw b c) Rm [1,3,4,5,17,18,19] [1,3,5] (VD b c) (qX 2 [1,3,4,5] [1,3,5] (Fa b c)):=⟨fun a o h=>by
 have e:=ZA @VD.eq_1 @Fa.eq_1;unfold Iw at h;simp only[ZC,VD,Rm];obtain⟨d,h⟩|⟨d,h⟩:=aw h
 ·obtain⟨x,m,h⟩:=ah h;obtain⟨j,h⟩|⟨j,h⟩:=aw h
  ·obtain⟨k,g,h⟩:=bf h;have u:Row.arr 1 [(.i a.1:AV)]=Row.arr 1 (k.map AV.i):=by rw[<-g];rfl
   have p:k.length=1:=by rw[<-g];rfl
   obtain⟨y,v,h⟩:=ah h;have q:=ba v;obtain⟨s,l,h⟩:=bf h;have w:a.2.map AV.i++k.map AV.i=s.map AV.i:=by rw[<-l,A4]
   have t:a.2.length+1=s.length:=by simp[<-g,<-l]<;>omega
   rw[t] at q;cases h;exact ZL (ZA d (ZA (bc m) (ZA j (ZA u (ZA p (ZA q (ZA w t))))))) (ZA e (ZA g.symm (ZA l.symm p)))
  ·cases h;exact ZL (ZA d (ZA (bc m) j)) e
 ·cases h;exact ZL d e⟩
def Tz(a:ae)(v:Int×List (List Int)):St:=⟨[(1,.pt 1 0 0),(3,.sl 3 0 v.2.length),(4,.i v.1)],[(1,.var (au .o a)),(3,.arr 1 (v.2.map (fy .u)))]⟩
def EP(a:ae)(v:List (List Int)):St:=⟨[(1,.pt 1 0 0),(3,.sl 3 0 v.length)],[(1,.var (au .o a)),(3,.arr 1 (v.map (fy .u)))]⟩
instance(a:ae):CL (HV a) JY [1,3,4] [1,3] (Tz a) (qX 0 [1,3] [1,3] (EP a)):=⟨fun b o h=>by
 have e:=ZA @Tz.eq_1 @EP.eq_1;unfold HV at h;simp only[ZC,Tz,JY];obtain⟨c,h⟩|⟨c,h⟩:=aw h
 ·obtain⟨s,t,h⟩:=ah h;try refine ZF c ?_
  refine aD (bb (aJ CL.w t ?_)) ?_
  ·exact ZK (ZA @VD.eq_1 @Fa.eq_1)
  ·simp only[ZC,Fa,Xt];obtain⟨g,h⟩|⟨g,h⟩:=aw h
   ·obtain⟨j,d,h⟩:=bf h;have v:Row.arr 1 [(.lst .u 1 (s.map AV.i):AV)]=Row.arr 1 (j.map (fy .u)):=by rw[<-d];rfl
    have l:j.length=1:=by rw[<-d];rfl
    obtain⟨y,w,h⟩:=ah h;have m:=ba w;obtain⟨p,k,h⟩:=bf h;have x:b.2.map (fy .u)++j.map (fy .u)=p.map (fy .u):=by rw[<-k,A4]
    have q:b.2.length+1=p.length:=by simp[<-d,<-k]<;>omega
    rw[q] at m;cases h;exact ZL (ZA c (ZA g (ZA v (ZA l (ZA m (ZA x q)))))) (ZA e (ZA d.symm (ZA k.symm l)))
   ·cases h;exact ZL (ZA c g) e
 ·cases h;exact ZL c e⟩
def Ur(a:ae)(v:Int×List (List Int)):St:=⟨[(3,.sl 3 0 v.2.length),(41,.lst .o 4 (a.F.map (aF .o))),(42,.i (a.F.length:Int)),(43,.i v.1)],[(3,.arr 1 (v.2.map (fy .u)))]⟩
def Eh(v:List (List Int)):St:=⟨[(3,.sl 3 0 v.length)],[(3,.arr 1 (v.map (fy .u)))]⟩
instance(j:ae):CL (FY j) NO [3,41,42,43] [3] (Ur j) (qX 4 [3] [3] (Eh)):=⟨fun a o h=>by
 have e:=ZA @Ur.eq_1 @Eh.eq_1;unfold FY at h;simp only[ZC,Ur,NO];obtain⟨d,h⟩|⟨d,h⟩:=aw h
 ·obtain⟨c1,p,h⟩:=ah h;obtain⟨k,h⟩|⟨k,h⟩:=aw h
  ·obtain⟨b,c,h⟩:=bf h;have x:Row.arr 1 [(.i a.1:AV)]=Row.arr 1 (b.map AV.i):=by rw[<-c];rfl
   have q:b.length=1:=by rw[<-c];rfl
   have y:sub (b.map AV.i) 0 1=b.map AV.i:=nC _ (by simp[<-c]);obtain⟨l,g,h⟩:=bf h;have z:Row.arr 1 [(.lst .u 1 (b.map AV.i):AV)]=Row.arr 1 (l.map (fy .u)):=by rw[<-g];rfl
   have s:l.length=1:=by rw[<-g];rfl
   obtain⟨d1,a1,h⟩:=ah h;have t:=ba a1;obtain⟨v,m,h⟩:=bf h;have b1:a.2.map (fy .u)++l.map (fy .u)=v.map (fy .u):=by rw[<-m,A4]
   have w:a.2.length+1=v.length:=by simp[<-c,<-g,<-m]<;>omega
   rw[w] at t;cases h;exact ZL (ZA d (ZA (bc p) (ZA k (ZA x (ZA q (ZA y (ZA z (ZA s (ZA t (ZA b1 w)))))))))) (ZA e (ZA c.symm (ZA g.symm (ZA m.symm (ZA q s)))))
  ·cases h;exact ZL (ZA d (ZA (bc p) k)) e
 ·cases h;exact ZL d e⟩
instance(a:ae):CW (Mq a) (fun(r:List (List Int))=>Ok A1 78 [(au .o a)] (.lst .u 1 (r.map (fy .u)))):=⟨fun r h=>by
 refine aL br m78 rfl ?_;unfold Mq at h;simp only[ZC,A78,bL,aY];obtain⟨d,b,h⟩:=ah h;try refine ZF trivial ?_
 refine aD (bb (aJ CL.w b ?_)) ?_
 ·exact ZK (ZA @Tz.eq_1 @EP.eq_1)
 ·simp only[ZC,EP,XS];obtain⟨g,c,h⟩:=ah h;try refine ZF trivial ?_
  refine aD (bb (aJ CL.w c ?_)) ?_
  ·exact ZK (ZA @Ur.eq_1 @Eh.eq_1)
  ·simp only[ZC,Eh,Yl];cases h;exact ZL trivial @bL.eq_1⟩
theorem w_dm(a:List Int)(p1Z0:Int){r:Bool}(h:IH a p1Z0=some r):Ok A1 248 [.lst .o 1 (a.map AV.i),.bp .o (.i p1Z0) 0] (.b r):=by
 refine aL br m248 rfl ?_;unfold IH at h;simp only[ZC,A248,rp,aY];obtain⟨d,c,h⟩:=ah h;refine ZF trivial ?_;refine ZSG trivial (CW.w _ c) ?_;cases h;exact ZL trivial @rp.eq_1
instance(a:List Int)(p1Z0:Int):CW (IH a p1Z0) (fun(r:Bool)=>Ok A1 248 [.lst .o 1 (a.map AV.i),.bp .o (.i p1Z0) 0] (.b r)):=⟨fun r h=>w_dm a p1Z0 h⟩
def PA(a:List (List Int))(F_fZ0:Nat)(C_fZ0:List AV)(v:Int):St:=⟨[(0,.lst .o 1 (a.map (fy .o))),(1,.fn F_fZ0 C_fZ0),(7,.i (a.length:Int)),(8,.i v)],[]⟩
def w_bp(c:List (List Int))(j:(List Int)->Option Bool)(F_fZ0:Nat)(C_fZ0:List AV)(hC_fZ0:jR C_fZ0)(hf_fZ0:∀(x0:List Int)(r:Bool),j x0=some r->Ok A1 F_fZ0 ((.lst .o 1 (x0.map AV.i))::C_fZ0) (.b r))(k:Int)(o:Int⊕(Unit⊕Int))(h:JI c j k=some o):AWP (OkS A1) Dg (qL [0,1,7,8] [] (PA c F_fZ0 C_fZ0) (qS (qX 0 [] [] (ce)) (qR aO (fun r=>.i r))) o) (PA c F_fZ0 C_fZ0 k):=by
 have e:=ZA @PA.eq_1 @ce.eq_1;unfold JI at h;simp only[ZC,PA,Dg];obtain⟨a,h⟩|⟨a,h⟩:=aw h
 ·obtain⟨m,d,h⟩:=ah h;obtain⟨p,l,h⟩:=ah h;have f:=ZA a (bc d);refine ZF f ?_;have f:=ZA f hC_fZ0.1;refine ZSG f (hf_fZ0 _ _ l) ?_;obtain⟨g,h⟩|⟨g,h⟩:=aw h
  ·cases h;exact ZL (ZA a (ZA (bc d) g)) (ZA @aO.eq_1 (ZA hC_fZ0.2 ((bO hC_fZ0))))
  ·cases h;exact ZL (ZA a (ZA (bc d) g)) (ZA e (ZA hC_fZ0.2 ((bO hC_fZ0))))
 ·cases h;exact ZL a (ZA e (ZA hC_fZ0.2 ((bO hC_fZ0))))
theorem w_et(a:List (List Int))(c:(List Int)->Option Bool){r:Int}(h:MQ a c=some r)(F_fZ0:Nat)(C_fZ0:List AV)(hC_fZ0:jR C_fZ0)(hf_fZ0:∀(x0:List Int)(r:Bool),c x0=some r->Ok A1 F_fZ0 ((.lst .o 1 (x0.map AV.i))::C_fZ0) (.b r)):Ok A1 247 [.lst .o 1 (a.map (fy .o)),.fn F_fZ0 C_fZ0] (.i r):=by
 refine aL br m247 rfl ?_;unfold MQ at h;simp only[ZC,A247,aO,aY];obtain⟨d,g,h⟩:=ah h;try refine ZF trivial ?_
 refine bW (o:=d) (co fM (aJ (w_bp a c F_fZ0 C_fZ0 hC_fZ0 hf_fZ0) g ?_)) (fun k hv=>?_) (fun l hv e τ hne hq=>?_)
 ·exact ZK (ZA @PA.eq_1 (ZA @ce.eq_1 (ZA hC_fZ0.2 ((bO hC_fZ0)))))
 ·subst hv;simp only[] at h;simp only[ZC,ce,Nq];cases h;exact ZL trivial (ZA @aO.eq_1 (ZA hC_fZ0.2 ((bO hC_fZ0))))
 ·subst hv;simp only[] at h;obtain⟨rfl,j⟩:=hq;cases h;exact j
instance(a:ae)(b:Int):CW (OW a b) (fun(r:Int)=>Ok A1 230 [(au .o a),.i b] (.i r)):=⟨fun r h=>by
 refine aL br m230 rfl ?_;unfold OW at h;simp only[ZC,A230,aO,aY];obtain⟨g,c,h⟩:=ah h;refine ZF trivial ?_;refine ZUG trivial (CW.w _ c) ?_;obtain⟨j,d,h⟩:=ah h;refine ZF trivial ?_;refine ZSG trivial (w_et _ _ d 248 [.bp .o (.i b) 0] ⟨fun ρ k=>by simp only[VS1,VS2,VS3,VS4,VS5,VS6,VT1,VT2,bC,bB,decide_true,decide_false,B0,A8,du,dr,dq,ne_eq,not_false_eq_true,B1,B2,true_and,false_and,A5,A6,↓reduceIte,reduceCtorEq,A2,A7,A3,B3],by simp[aP,AV.ments]⟩ (fun _ _ h=>w_dm _ _ h)) ?_;cases h;exact ZL trivial @aO.eq_1⟩
def UO(a:ae)(b:List Int)(v:Int×List Int):St:=⟨[(2,.pt 2 0 0),(5,.sl 5 0 v.2.length),(9,.lst .o 1 (b.map AV.i)),(10,.i (b.length:Int)),(11,.i v.1)],[(2,.var (au .o a)),(5,.arr 1 (v.2.map AV.i))]⟩
instance(c:ae)(d:List Int):CL (Gz c d) AK [2,5,9,10,11] [2,5] (UO c d) (qX 0 [5] [5] (pd)):=⟨fun a o h=>by
 have e:=ZA @UO.eq_1 @pd.eq_1;unfold Gz at h;simp only[ZC,UO,AK];obtain⟨g,h⟩|⟨g,h⟩:=aw h
 ·obtain⟨y,s,h⟩:=ah h;obtain⟨t,u,h⟩:=ah h;have f:=ZA g (bc s);refine ZF f ?_;refine ZSG f (CW.w _ u) ?_;obtain⟨j,b,h⟩:=bf h;have v:Row.arr 1 [(.i t:AV)]=Row.arr 1 (j.map AV.i):=by rw[<-b];rfl
  have l:j.length=1:=by rw[<-b];rfl
  obtain⟨z,w,h⟩:=ah h;have m:=ba w;obtain⟨p,k,h⟩:=bf h;have x:a.2.map AV.i++j.map AV.i=p.map AV.i:=by rw[<-k,A4]
  have q:a.2.length+1=p.length:=by simp[<-b,<-k]<;>omega
  rw[q] at m;cases h;exact ZL (ZA f (ZA v (ZA l (ZA m (ZA x q))))) (ZA e (ZA b.symm (ZA k.symm l)))
 ·cases h;exact ZL g e⟩
instance(a:ae)(b:List Int):CW (Jz a b) (fun(r:List Int)=>Ok A1 202 [(au .o a),.lst .o 1 (b.map AV.i)] (.lst .u 1 (r.map AV.i))):=⟨fun r h=>by
 refine aL br m202 rfl ?_;unfold Jz at h;simp only[ZC,A202,aO,aY];obtain⟨d,c,h⟩:=ah h;try refine ZF trivial ?_
 refine aD (bb (aJ CL.w c ?_)) ?_
 ·exact ZK (ZA @UO.eq_1 @pd.eq_1)
 ·simp only[ZC,pd,Lt];cases h;exact ZL trivial @aO.eq_1⟩
def Te(a:Nat)(b:Nat)(c:Int)(v:Int×Int×List Int):St:=⟨[(0,.sl 1000000000 a b),(3,.i v.1),(4,.sl 1000000000 (a+(B4 c)) (b-(B4 c))),(5,.i v.2.1)],[(1000000000,.arr 1 (v.2.2.map AV.i))]⟩
def DV(a:Nat)(b:Nat)(v:Int×List Int):St:=⟨[(0,.sl 1000000000 a b),(3,.i v.1)],[(1000000000,.arr 1 (v.2.map AV.i))]⟩
instance(a:Nat)(b:Nat)(g:Int):CL (Dd a b g) mF [0,3,4,5] [1000000000] (Te a b g) (qX 2 [0,3] [1000000000] (DV a b)):=⟨fun c o h=>by
 unfold Dd at h;simp only[ZC,Te,mF];exact ZT ZJB (ZA @Te.eq_1 (ZA @DV.eq_1 @mF.eq_1)) h⟩
def VN(a:Nat)(b:Nat)(c:List Int)(v:Int):St:=⟨[(0,.sl 1000000000 a b),(3,.i v)],[(1000000000,.arr 1 (c.map AV.i))]⟩
def EJ(a:Nat)(b:Nat)(c:List Int)(v:Unit):St:=⟨[(0,.sl 1000000000 a b)],[(1000000000,.arr 1 (c.map AV.i))]⟩
instance(a:Nat)(b:Nat)(c:List Int):CL (Ii a b c) pZ [0,3] [1000000000] (VN a b c) (qS (qX 0 [0] [1000000000] (EJ a b c)) (qM bL [1000000000] (fun(r:Nat×Nat×List Int)=>.sl 1000000000 r.1 r.2.1) (fun(r:Nat×Nat×List Int)=>[(1000000000,.arr 1 (r.2.2.map AV.i))]))):=⟨fun j o h=>by
 have e:=ZA @VN.eq_1 @EJ.eq_1;unfold Ii at h;simp only[ZC,VN,pZ];obtain⟨d,h⟩|⟨d,h⟩:=aw h
 ·obtain⟨a1,l,h⟩:=ah h;obtain⟨b1,m,h⟩:=ah h;obtain⟨c1,p,h⟩:=ah h;obtain⟨d1,q,h⟩:=ah h;obtain⟨k,h⟩|⟨k,h⟩:=aw h
  ·obtain⟨g1,v,h⟩:=ah h;obtain⟨g,w,h⟩:=ah h;have f:=ZA d (ZA (ba l) (ZA m (ZA (ba p) (ZA q (ZA k (ba v))))));try refine ZF f ?_
   refine aD (bb (aJ CL.w w ?_)) ?_
   ·exact ZK (ZA @Te.eq_1 @DV.eq_1)
   ·simp only[ZC,DV,zA];obtain⟨i1,x,h⟩:=ah h;obtain⟨s,t,h⟩:=bf h;have u:en (g.2.map AV.i) (a+(B4 g.1)) (B6 (b-(B4 g.1)) (.i 0:AV))=s.map AV.i:=by rw[<-t,<-OE]<;>simp[List.map_take]
    try simp only[Int.toNat_natCast] at u
    have y:s.length=g.2.length:=by rw[<-t];exact ov _ _ _
    obtain⟨j1,z,h⟩:=ah h;cases h;exact ZL (ZA f (ZA (ba x) (ZA u (ba z)))) (ZA @bL.eq_1 y)
  ·cases h;exact ZL (ZA d (ZA (ba l) (ZA m (ZA (ba p) (ZA q k))))) e
 ·cases h;exact ZL d e⟩
instance(b:Nat)(c:Nat)(d:List Int):CW (Oo b c d) (fun(r:Nat×Nat×List Int)=>OkM A1 204 [.sl 1000000000 b c] [(1000000000,.arr 1 (d.map AV.i))] (.sl 1000000000 r.1 r.2.1) ([(1000000000,.arr 1 (r.2.2.map AV.i))])):=⟨fun r h=>by
 refine aZ (lr:=[1000000000]) br ach rfl rfl ?_;unfold Oo at h;simp only[ZC,Oz,bL];obtain⟨a,h⟩|⟨a,h⟩:=aw h
 ·cases h;exact ZL a @bL.eq_1
 ·obtain⟨g,j,h⟩:=ah h;try refine ZF a ?_
  refine bW (o:=g) (co yG (aJ CL.w j ?_)) (fun l hv=>?_) (fun m hv e τ hne hq=>?_)
  ·exact ZK (ZA @VN.eq_1 @EJ.eq_1)
  ·subst hv;simp only[] at h;simp only[ZC,EJ,zp];cases h;exact ZL a @bL.eq_1
  ·subst hv;simp only[] at h;obtain⟨rfl,k⟩:=hq;cases h;exact k⟩
def TX(a:List Int)(b:List Int)(v:Int×List Int):St:=⟨[(1,.lst .o 1 (b.map AV.i)),(5,.sl 5 0 v.2.length),(9,.lst .o 1 (a.map AV.i)),(10,.i (a.length:Int)),(11,.i v.1)],[(5,.arr 1 (v.2.map AV.i))]⟩
instance(c:List Int)(d:List Int):CL (BZ c d) vo [1,5,9,10,11] [5] (TX c d) (qX 0 [5] [5] (pd)):=⟨fun a o h=>by
 unfold BZ at h;simp only[ZC,TX,vo];exact ZT ZJB (ZA @TX.eq_1 (ZA @pd.eq_1 @vo.eq_1)) h⟩
instance(a:List Int)(b:List Int):CW (HE a b) (fun(r:List Int)=>Ok A1 140 [.lst .o 1 (a.map AV.i),.lst .o 1 (b.map AV.i)] (.lst .u 1 (r.map AV.i))):=⟨fun r h=>by
 refine aL br m140 rfl ?_;unfold HE at h;simp only[ZC,A140,aO,aY];obtain⟨d,j,h⟩:=ah h;try refine ZF trivial ?_
 refine aD (bb (aJ CL.w j ?_)) ?_
 ·exact ZK (ZA @TX.eq_1 @pd.eq_1)
 ·simp only[ZC,pd,Nt];obtain⟨k,g,h⟩:=ah h;have l:k.length=d.length:=IZ g;refine ZF trivial ?_;refine kn (by simp only[VS1,VS2,VS3,VS4,VS5,VS6,VT1,VT2,bC,bB,decide_true,decide_false,B0,A8,du,dr,dq,ne_eq,not_false_eq_true,B1,B2,true_and,false_and,A5,A6,↓reduceIte,reduceCtorEq,A2,A7,A3,B3];exact(JT Oc (xs:=d) (by simp[B8]) g)) (by simp[VS1,VS2,VS3,VS4,VS5,VS6,VT1,VT2]) (by first|exact zC [1000000000] rfl (by decide+kernel)|simp[VS1,VS2,VS3,VS4,VS5,VS6,VT1,VT2]) ?_;refine ZG ?_;obtain⟨c,m,h⟩:=ah h;refine ZF trivial ?_;refine ZWG trivial (CW.w _ m) [1000000000] [] ?_;obtain⟨p,q,h⟩:=bf h;have s:sub (c.2.2.map AV.i) c.1 c.2.1=p.map AV.i:=by rw[dH,q]
  cases h;exact ZL s (ZA @aO.eq_1 l)⟩
instance(a:ae)(c:List Int)(d:List Int):CW (CK a c d) (fun(r:Bool)=>Ok A1 136 [(au .o a),.lst .o 1 (c.map AV.i),.lst .o 1 (d.map AV.i)] (.b r)):=⟨fun r h=>by
 refine aL br m136 rfl ?_;unfold CK at h;simp only[ZC,A136,dx,aY];obtain⟨l,g,h⟩:=ah h;refine ZF trivial ?_;refine ZUG trivial (CW.w _ g) ?_;obtain⟨m,j,h⟩:=ah h;refine ZF trivial ?_;refine ZUG trivial (CW.w _ j) ?_;obtain⟨p,k,h⟩:=ah h;refine ZF trivial ?_;refine ZUG trivial (CW.w _ k) ?_;cases h;exact ZL trivial @dx.eq_1⟩
instance(d:ae)(a:af):CW (Mv d a) (fun(r:Bool)=>Ok A1 94 [(au .o d),(aj .o a)] (.b r)):=⟨fun r h=>by
 have e:=@aO.eq_1;refine aL br m94 rfl ?_;unfold Mv at h;simp only[ZC,A94,aO,aY];obtain⟨c1,k1,h⟩:=ah h;refine ZF trivial ?_;refine ZUG trivial (CW.w _ k1) ?_;obtain⟨l1,m1,h⟩:=ah h;try refine ZF trivial ?_
 refine aD (sh:=(fun v=>⟨[(2,.pt 2 0 0),(3,.pt 3 0 0),(5,.sl 5 0 c1.1.length),(35,.b v)],[(2,.var (au .o d)),(3,.var (aj .o a)),(5,.arr 1 (c1.1.map AV.i))]⟩)) (s:=l1) ?_ ?_
 ·replace h:=m1;obtain⟨z1,p1,h⟩:=ah h;refine ZF trivial ?_;refine ZSG trivial (CW.w _ p1) ?_;obtain⟨c,h⟩|⟨c,h⟩:=aw h
  ·cases h;exact ZL c trivial
  ·obtain⟨a2,q1,h⟩:=ah h;refine ZF c ?_;refine ZSG c (CW.w _ q1) ?_;obtain⟨j,h⟩|⟨j,h⟩:=aw h
   ·cases h;exact ZL (ZA c j) trivial
   ·obtain⟨p,h⟩|⟨p,h⟩:=aw h
    ·cases h;exact ZL (ZA c (ZA j p)) trivial
    ·obtain⟨b2,s1,h⟩:=ah h;have f:=ZA c (ZA j p);refine ZF f ?_;refine ZSG f (CW.w _ s1) ?_;cases h;exact ZL f trivial
 ·simp only[ZC,Yv];obtain⟨k,h⟩|⟨k,h⟩:=aw h
  ·cases h;exact ZL k e
  ·obtain⟨q,h⟩|⟨q,h⟩:=aw h
   ·obtain⟨t1,u1,h⟩:=ah h;have f:=ZA k q;try refine ZF f ?_
    refine aD (sh:=(fun v=>⟨[(4,.b v)],[]⟩)) (s:=t1) ?_ ?_
    ·replace h:=u1;obtain⟨l,h⟩|⟨l,h⟩:=aw h
     ·obtain⟨t,h⟩|⟨t,h⟩:=aw h
      ·cases h;exact ZL (ZA f (ZA l t)) trivial
      ·cases h;exact ZL (ZA f (ZA l t)) trivial
     ·cases h;exact ZL (ZA f l) trivial
    ·simp only[ZC,XI];cases h;exact ZL f e
   ·obtain⟨c2,v1,h⟩:=ah h;have f:=ZA k q;refine ZF f ?_;refine ZUG f (CW.w _ v1) ?_;obtain⟨u,h⟩|⟨u,h⟩:=aw h
    ·obtain⟨d2,w1,h⟩:=ah h;have f:=ZA f u;refine ZF f ?_;refine ZSG f (CW.w _ w1) ?_;obtain⟨g,h⟩|⟨g,h⟩:=aw h
     ·obtain⟨g2,w,h⟩:=ah h;obtain⟨i2,x,h⟩:=ah h;obtain⟨j2,y,h⟩:=ah h;obtain⟨k2,a1,h⟩:=ah h;obtain⟨m,h⟩|⟨m,h⟩:=aw h
      ·obtain⟨l2,d1,h⟩:=ah h;obtain⟨m2,g1,h⟩:=ah h;obtain⟨p2,i1,h⟩:=ah h;obtain⟨q2,j1,h⟩:=ah h;obtain⟨b1,h⟩|⟨b1,h⟩:=aw h
       ·obtain⟨s2,y1,h⟩:=ah h;have f:=ZA f (ZA g (ZA (ba w) (ZA x (ZA (ba y) (ZA a1 (ZA m (ZA (ba d1) (ZA g1 (ZA (ba i1) (ZA j1 b1))))))))));refine ZF f ?_;refine ZSG f (CW.w _ y1) ?_;cases h;exact ZL f e
       ·cases h;exact ZL (ZA f (ZA g (ZA (ba w) (ZA x (ZA (ba y) (ZA a1 (ZA m (ZA (ba d1) (ZA g1 (ZA (ba i1) (ZA j1 b1))))))))))) e
      ·cases h;exact ZL (ZA f (ZA g (ZA (ba w) (ZA x (ZA (ba y) (ZA a1 m)))))) e
     ·cases h;exact ZL (ZA f g) e
    ·cases h;exact ZL (ZA f u) e⟩
end Vs

