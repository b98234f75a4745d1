/-
  Part of the proof that FnExactRunEvents returns true at every input.
-/
import Derived.Test.YtgpbibgbfklikaaGreatGa
set_option linter.defProp false
set_option linter.unusedSimpArgs false
set_option linter.unusedVariables false
open And renaming intro -> A0
open Go.Proofs.Tryz renaming prog -> A1
open Nat renaming reduceEqDiff -> A2, reduceLeDiff -> A3, reduceSub -> A5, reduceMul -> A6, reduceAdd -> A7, reduceLT -> B9
open List renaming map_append -> A4, nodup_cons -> A8, nodup_nil -> A9, length_replicate -> B4, length_append -> B5, length_cons -> B6, length_set -> B7, length_nil -> B8
open Int renaming reduceEq -> B0, reduceNe -> B1, reduceLE -> B2, toNat -> B3
set_option maxHeartbeats 1000000
set_option maxRecDepth 8000
namespace Vs
open Go Go.Proofs
attribute [local irreducible] AWP dV eff xz gR callM
def VT1:=A0 @au.eq_1<|A0 @aG.eq_1<|A0 @ay.eq_1<|A0 @bN.eq_1<|A0 @ai.eq_1<|A0 @bv.eq_1<|A0 @aF.eq_1<|A0 @aI.eq_1<|A0 @cA.eq_1<|A0 @iM.eq_1<|(show(∀(x:Value)(f:Nat)(cs:List AV),setPart (.sc x) 0 (.fn f cs)=some (.fn f cs)) from fun _ _ _=>rfl)
def rd(f:Fl)(x:aj)(v:Value)(w:World)(S:Nat->Prop)(B:Nat)(fp:List Nat)(h:aV w S B v (ay f x) fp)(hk:v.cells.size=2):shK 2 v:=GB h hk
def VT2:=A0 @eW<|A0 @ug<|A0 @el<|A0 @ue<|A0 @uD<|A0 @en<|A0 @mN<|A0 @lq<|A0 @qq<|A0 @il<|A0 @qw<|A0 @qD<|A0 @iB<|A0 @kI<|A0 @hY<|A0 @tW<|A0 @hU<|A0 @uG<|A0 @uy<|A0 @gZ<|A0 @mR<|A0 @od<|A0 @ua<|A0 @kr<|A0 @tX<|A0 @uA<|A0 @kc<|A0 @mU<|A0 @ia<|A0 @ud<|A0 @fR<|A0 @uh<|A0 @uj<|A0 @fW<|A0 @mQ<|A0 @pJ<|A0 @wo<|A0 @kU<|A0 @wM<|A0 @xQ<|A0 @lU<|A0 @nT<|A0 @je<|A0 @mY<|A0 @fX<|A0 @nC<|A0 @ny<|A0 @fP<|A0 @iE<|A0 @ix<|A0 @mD<|A0 @fF<|A0 @mE<|A0 @my<|A0 @fB<|A0 @gS<|A0 @kK<|A0 @pb<|A0 @gK<|A0 @pu<|A0 @pE<|A0 @gL<|A0 @jT<|A0 @zA<|A0 @FZ<|A0 @tD<|A0 @Jp<|A0 @HV<|A0 @rY<|A0 @uL<|A0 @rD<|A0 @Pc<|A0 @Jm<|A0 @Hp<|A0 @im<|A0 @iG<|A0 @tJ<|A0 @Hl<|A0 @HQ<|A0 @Pw<|A0 @Jn<|A0 @Yo<|A0 @Lk<|A0 @Gr<|A0 @Cz<|A0 @Hu<|A0 @JX<|@Gh
def VF1:=A0 @en<|A0 @mN<|A0 @iB<|A0 @kI<|A0 @gZ<|A0 @mR<|A0 @kc<|A0 @mU<|A0 @fW<|A0 @mQ<|A0 @lU<|A0 @nT<|A0 @fP<|A0 @iE<|A0 @fB<|A0 @gS<|A0 @gL<|A0 @jT<|A0 @rY<|@uL
def yR:=A0 @qd<|A0 @du<|A0 @pO<|A0 @dt<|A0 @mP<|A0 @ti<|A0 @mL<|A0 @sP<|A0 @pY<|A0 @kq<|A0 @pX<|A0 @kt<|A0 @qg<|A0 @wO<|A0 @pQ<|A0 @wZ<|A0 @pN<|A0 @fY<|A0 @qi<|A0 @gb<|A0 @rn<|A0 @AC<|A0 @rx<|A0 @Aa<|A0 @jS<|A0 @oc<|A0 @jX<|A0 @nM<|A0 @iR<|A0 @nh<|A0 @iQ<|A0 @nf<|A0 @kZ<|A0 @qk<|A0 @kT<|A0 @qp<|A0 @FB<|A0 @LZ<|A0 @FM<|@NZ
theorem VE1:au .o=au .u/\au .m=au .u/\au .s=au .u/\bN .o=bN .u/\bN .m=bN .u/\bN .s=bN .u:=⟨rfl,rfl,rfl,rfl,rfl,rfl⟩
def Zr{α:Type}(n:Nat)(a:α):(List.replicate n a).length=n:=B4
def ZA{A B:Prop}(a:A)(b:B):A/\B:=⟨a,b⟩
def ZF{A:Prop}(a:A){P Q:Prop}(k:Q)(e:A->P=Q:=by intro a;simp only[VS1,VS2,VS3,VS4,VS5,VS6,VT1,VT2,bj,bl,decide_true,decide_false,A9,A8,cG,cF,cE,ne_eq,not_false_eq_true,B0,B1,true_and,false_and,A5,A6,↓reduceIte,reduceCtorEq,A2,A7,A3,B2,a];exact Eq.refl _):P:=(e a).mpr k
def ZG{P Q:Prop}(k:Q)(e:P=Q:=by simp only[VA,VF1,↓reduceIte,A2,A7,A6,A5,A3];exact Eq.refl _):P:=e.mpr k
def ZL{A:Prop}(a:A){B:Prop}(b:B){P:Prop}(e:A->B->P:=by intro a b;(try simp only[VS1,VS2,VS3,VS4,VS5,VS6,VT1,VT2,bj,bl,decide_true,decide_false,A9,A8,cG,cF,cE,ne_eq,not_false_eq_true,B0,B1,true_and,false_and,A5,A6,↓reduceIte,reduceCtorEq,A2,A7,A3,B2,a]);all_goals first|(simp[qL,qJ,qJ0,qS,qX,qR,qM,Shp,sub,iw,bj,bl,VS1,VS2,VS3,VS4,VS5,VS6,VT1,VT2,b];done)|(simp[qL,qJ,qJ0,qS,qX,qR,qM,Shp,sub,iw,bj,bl,VS1,VS2,VS3,VS4,VS5,VS6,VT1,VT2,VE1,b];done)|simp[qL,qJ,qJ0,qS,qX,qR,qM,Shp,sub,iw,bj,bl,VS1,VS2,VS3,VS4,VS5,VS6,VT1,VT2,VE1,a,b]):P:=e a b
def ZK{B:Prop}(b:B){P:Prop}(e:B->P:=by intro b;simp[qL,qJ,qJ0,qS,qX,qR,qM,Shp,sub,iw,bj,bl,VS1,VS2,VS3,VS4,VS5,VS6,VT1,VT2,b]):P:=e b
def ZS{A:Prop}(a:A){W:Prop}(w:W){ok:Oks}{ρ:Nat->Option Row}{d f:Nat}{args:List AV}{K:AV->List (Nat×Row)->Prop}{v:Value}(hk:K (.sc v) [])
 (e:A->W->ok.p f (args.map (snp ρ 4)) (.sc v):=by intro a w;simp only[VS1,VS2,VS3,VS4,VS5,VS6,VT1,VT2,bj,bl,decide_true,decide_false,A9,A8,cG,cF,cE,ne_eq,not_false_eq_true,B0,B1,true_and,false_and,A5,A6,↓reduceIte,reduceCtorEq,A2,A7,A3,B2,a];exact w):gR ok ρ d f args K:=MI (e a w) hk
def ZU{A:Prop}(a:A){W:Prop}(w:W){ok:Oks}{ρ:Nat->Option Row}{d f:Nat}{args:List AV}{K:AV->List (Nat×Row)->Prop}{res:AV}(hk:K (adopt 4 d res).1 (adopt 4 d res).2.1)
 (e:A->W->ok.p f (args.map (snp ρ 4)) res:=by intro a w;simp only[VS1,VS2,VS3,VS4,VS5,VS6,VT1,VT2,bj,bl,decide_true,decide_false,A9,A8,cG,cF,cE,ne_eq,not_false_eq_true,B0,B1,true_and,false_and,A5,A6,↓reduceIte,reduceCtorEq,A2,A7,A3,B2,a];exact w) (hu:res.allU:=by simp[AV.allU,kX,vJ,VT1,VT2]) (hn:∀p∈(adopt 4 d res).2.1,ρ p.1=none/\p.1<1000000000:=by simp only[VS1,VS2,VS3,VS4,VS5,VS6,VT1,VT2,bj,bl,decide_true,decide_false,A9,A8,cG,cF,cE,ne_eq,not_false_eq_true,B0,B1,true_and,false_and,A5,A6,↓reduceIte,reduceCtorEq,A2,A7,A3,B2,B9]):gR ok ρ d f args K:=Oi (e a w) hu hn hk
def ZQ{P:Prop}(e:P:=by simp[VS1,VS2,VS3,VS4,VS5,VS6,VT1,VT2]):P:=e
def ZW{A:Prop}(a:A){W:Prop}(w:W){ok:Oks}{ρ:Nat->Option Row}{d f:Nat}{args:List AV}{rs:List Nat}{K:AV->List (Nat×Row)->Prop}{res:AV}{outs:List (Nat×Row)}
 (e:A->W->ok.m f (args.map (AV.rg (cnm rs))) (rs.map (iy ρ rs)) res outs:=by intro a w;simp only[VS1,VS2,VS3,VS4,VS5,VS6,VT1,VT2,bj,bl,decide_true,decide_false,A9,A8,cG,cF,cE,ne_eq,not_false_eq_true,B0,B1,true_and,false_and,A5,A6,↓reduceIte,reduceCtorEq,A2,A7,A3,B2,a];first|exact w|(simp only[VS1,VS2,VS3,VS4,VS5,VS6,VT1,VT2,bj,bl,decide_true,decide_false,A9,A8,cG,cF,cE,ne_eq,not_false_eq_true,B0,B1,true_and,false_and,A5,A6,↓reduceIte,reduceCtorEq,A2,A7,A3,B2,a] at w;exact w))
 (h1:rs.Nodup/\(∀r∈rs,cM (ρ r))/\(∀r∈rs,∀q∈ni (ρ r),q∈rs)/\(∀r∈aK args,r∈rs):=by simp[VS1,VS2,VS3,VS4,VS5,VS6,VT1,VT2])
 (h2:(outs.map fun p=>bkn d rs p.1).Nodup/\(∀p∈outs,1000000000<=p.1->p.1-1000000000<rs.length)/\(∀p∈outs,p.1<1000000000->ρ (bkn d rs p.1)=none/\bkn d rs p.1<1000000000))
 (hk:K (res.rg (bkn d rs)) (cd rs++outs.map (dy d rs))):callM ok ρ d f args rs K:=gm (e a w) h1 h2 hk
def S_c(a:List ByteArray)(v:Int×Int):St:=⟨[(0,.lst .o 1 (a.map AV.z)),(1,.i v.1),(5,.i v.2)],[]⟩
def jp(v:Int):St:=⟨[(1,.i v)],[]⟩
def NmK(ns ks:List Nat)(P:Prop):Prop:=P
def nmK{ns ks:List Nat}{P:Prop}(p:P):NmK ns ks P:=p
def ZSG{A:Prop}(a:A){W:Prop}(w:W){ok:Oks}{ρ:Nat->Option Row}{d f:Nat}{args:List AV}{K:AV->List (Nat×Row)->Prop}{v:Value}{Q:Prop}(k:Q)
 (e:A->W->ok.p f (args.map (snp ρ 4)) (.sc v):=by intro a w;simp only[VS1,VS2,VS3,VS4,VS5,VS6,VT1,VT2,bj,bl,decide_true,decide_false,A9,A8,cG,cF,cE,ne_eq,not_false_eq_true,B0,B1,true_and,false_and,A5,A6,↓reduceIte,reduceCtorEq,A2,A7,A3,B2,a];exact w) (g:K (.sc v) []=Q:=by simp only[VA,VF1,↓reduceIte,A2,A7,A6,A5,A3];exact Eq.refl _):gR ok ρ d f args K:=MI (e a w) (g.mpr k)
def ZUG{A:Prop}(a:A){W:Prop}(w:W){ok:Oks}{ρ:Nat->Option Row}{d f:Nat}{args:List AV}{K:AV->List (Nat×Row)->Prop}{res:AV}{Q:Prop}(k:Q)
 (e:A->W->ok.p f (args.map (snp ρ 4)) res:=by intro a w;simp only[VS1,VS2,VS3,VS4,VS5,VS6,VT1,VT2,bj,bl,decide_true,decide_false,A9,A8,cG,cF,cE,ne_eq,not_false_eq_true,B0,B1,true_and,false_and,A5,A6,↓reduceIte,reduceCtorEq,A2,A7,A3,B2,a];exact w) (hu:res.allU:=by simp[AV.allU,kX,vJ,VT1,VT2]) (hn:∀p∈(adopt 4 d res).2.1,ρ p.1=none/\p.1<1000000000:=by simp only[VS1,VS2,VS3,VS4,VS5,VS6,VT1,VT2,bj,bl,decide_true,decide_false,A9,A8,cG,cF,cE,ne_eq,not_false_eq_true,B0,B1,true_and,false_and,A5,A6,↓reduceIte,reduceCtorEq,A2,A7,A3,B2,B9]) (g:K (adopt 4 d res).1 (adopt 4 d res).2.1=Q:=by simp only[VA,VF1,↓reduceIte,A2,A7,A6,A5,A3];exact Eq.refl _):gR ok ρ d f args K:=Oi (e a w) hu hn (g.mpr k)
def NM1{ρ:Nat->Option Row}{d:Nat}{rs:List Nat}{outs:List (Nat×Row)}{ns ks:List Nat}(hn:outs.map (·.1)=ns)(h:aef rs ns=true):
 NmK ns ks ((outs.map fun p=>bkn d rs p.1).Nodup/\(∀p∈outs,1000000000<=p.1->p.1-1000000000<rs.length)/\(∀p∈outs,p.1<1000000000->ρ (bkn d rs p.1)=none/\bkn d rs p.1<1000000000)):=mV ns hn h
def NM2{ρ:Nat->Option Row}{d:Nat}{rs:List Nat}{outs:List (Nat×Row)}{ns ks:List Nat}(hn:outs.map (·.1)=ns)(h:SI d rs ns ks=true)(hk:∀q∈ks,ρ q=none):
 NmK ns ks ((outs.map fun p=>bkn d rs p.1).Nodup/\(∀p∈outs,1000000000<=p.1->p.1-1000000000<rs.length)/\(∀p∈outs,p.1<1000000000->ρ (bkn d rs p.1)=none/\bkn d rs p.1<1000000000)):=lS ns ks hn h hk
def ZWG{A:Prop}(a:A){W:Prop}(w:W)(ns ks:List Nat){Q:Prop}(k:Q){ok:Oks}{ρ:Nat->Option Row}{d f:Nat}{args:List AV}{rs:List Nat}{K:AV->List (Nat×Row)->Prop}{res:AV}{outs:List (Nat×Row)}
 (e:A->W->ok.m f (args.map (AV.rg (cnm rs))) (rs.map (iy ρ rs)) res outs:=by intro a w;simp only[VS1,VS2,VS3,VS4,VS5,VS6,VT1,VT2,bj,bl,decide_true,decide_false,A9,A8,cG,cF,cE,ne_eq,not_false_eq_true,B0,B1,true_and,false_and,A5,A6,↓reduceIte,reduceCtorEq,A2,A7,A3,B2,a];first|exact w|(simp only[VS1,VS2,VS3,VS4,VS5,VS6,VT1,VT2,bj,bl,decide_true,decide_false,A9,A8,cG,cF,cE,ne_eq,not_false_eq_true,B0,B1,true_and,false_and,A5,A6,↓reduceIte,reduceCtorEq,A2,A7,A3,B2,a] at w;exact w))
 (h1:rs.Nodup/\(∀r∈rs,cM (ρ r))/\(∀r∈rs,∀q∈ni (ρ r),q∈rs)/\(∀r∈aK args,r∈rs):=by simp[VS1,VS2,VS3,VS4,VS5,VS6,VT1,VT2])
 (h2:NmK ns ks ((outs.map fun p=>bkn d rs p.1).Nodup/\(∀p∈outs,1000000000<=p.1->p.1-1000000000<rs.length)/\(∀p∈outs,p.1<1000000000->ρ (bkn d rs p.1)=none/\bkn d rs p.1<1000000000)):=by first|exact NM1 rfl (by decide+kernel)|exact NM2 rfl (by decide+kernel) ZQ|exact nmK ZQ)
 (g:K (res.rg (bkn d rs)) (cd rs++outs.map (dy d rs))=Q:=by simp only[VA,VF1,↓reduceIte,A2,A7,A6,A5,A3];exact Eq.refl _):callM ok ρ d f args rs K:=gm (e a w) h1 h2 (g.mpr k)
class CW {R:Type} (m:Option R) (C:outParam (R->Prop)):Prop where w:∀r,m=some r->C r
class CL {S B:Type} (f:S->Option (S⊕B)) (A:outParam aq) (lv lr:outParam (List Nat)) (sh:outParam (S->St)) (q:outParam (B->Ex->St->Prop)):Prop where
 w:∀s o,f s=some o->AWP (OkS A1) A (qL lv lr sh q o) (sh s)
class CX {S B:Type} (f:S->Option (S⊕B)) (A:outParam aq) (lv lr:outParam (List Nat)) (X:outParam Type) (sh:outParam (X->S->St)) (q:outParam (X->B->Ex->St->Prop)):Prop where
 w:∀x s o,f s=some o->AWP (OkS A1) A (qL lv lr (sh x) (q x) o) (sh x s)
def ahf{F:Prop}{α:Type}{c:Bool}{x y z:α}(f:F)(h:cond c x y=z):((F/\c=true)/\x=z)\/((F/\c=false)/\y=z):=(aM h).imp (fun a=>⟨⟨f,a.1⟩,a.2⟩) (fun a=>⟨⟨f,a.1⟩,a.2⟩)
def aii{F:Prop}{α β:Type}{c:Bool}{x y:Option α}{k:α->Option β}{z:Option β}(f:F)(h:(cond c x y).bind k=z):((F/\c=true)/\x.bind k=z)\/((F/\c=false)/\y.bind k=z):=by
 cases c
 ·exact .inr ⟨⟨f,rfl⟩,h⟩
 ·exact .inl ⟨⟨f,rfl⟩,h⟩
def aiu{α β:Type}{a:α}{k:α->Option β}{z:Option β}(h:(some a).bind k=z):k a=z:=h
def ahe{α β γ:Type}{m:Option α}{k:α->Option β}{l:β->Option γ}{z:Option γ}(h:(m.bind k).bind l=z):m.bind (fun x=>(k x).bind l)=z:=by rw[<-Option.bind_assoc];exact h
def ajc{α β:Type}{a:α}{k:α->Option β}{z:Option β}(h:bnd a k=z):k a=z:=h
def aje{F:Prop}{α β:Type}{xs:List α}{o n:Nat}{k:List α->Option β}{r:β}(f:F)(h:bnd (ca xs o n) k=some r):∃l,(F/\∀e:α->AV,sub (xs.map e) o n=l.map e)/\k l=some r:=⟨_,⟨f,fun e=>bz ..⟩,h⟩
def aio{p:Prop}[Decidable p]{β:Type}{k:Unit->Option β}{r:β}(h:(grd p).bind k=some r):p/\k ()=some r:=
 let⟨_,a,b⟩:=ar h;⟨bq a,b⟩
def aip{F p:Prop}[Decidable p]{β:Type}{k:Unit->Option β}{r:β}(f:F)(h:(grd p).bind k=some r):(F/\p)/\k ()=some r:=
 let⟨_,a,b⟩:=ar h;⟨⟨f,bq a⟩,b⟩
def ait{F:Prop}{α β:Type}{xs:List α}{i:Nat}{k:α->Option β}{r:β}(f:F)(h:(xs[i]?).bind k=some r):∃x,(F/\xs[i]?=some x)/\k x=some r:=
 let⟨x,a,b⟩:=ar h;⟨x,⟨f,a⟩,b⟩
def aiz{F:Prop}{α β:Type}{xs:List α}{i:Int}{k:α->Option β}{r:β}(f:F)(h:(bG xs i).bind k=some r):∃x,(F/\0<=i/\xs[i.toNat]?=some x)/\k x=some r:=
 let⟨x,a,b⟩:=ar h;⟨x,⟨f,ec a⟩,b⟩
def aid{F:Prop}{β:Type}{xs:ByteArray}{i:Int}{k:UInt8->Option β}{r:β}(f:F)(h:(wG xs i).bind k=some r):∃x,(F/\0<=i/\xs[i.toNat]?=some x)/\k x=some r:=
 let⟨x,a,b⟩:=ar h;⟨x,⟨f,afb a⟩,b⟩
def ahg{F:Prop}{α β:Type}{xs:List α}{hi:Int}{k:List α->Option β}{r:β}(f:F)(h:(slT xs hi).bind k=some r):∃ys,(F/\0<=hi/\hi.toNat<=xs.length/\∀e:α->AV,sub (xs.map e) 0 hi.toNat=ys.map e)/\k ys=some r:=
 let⟨x,a,b⟩:=ar h;let q:=FS (fun _=>AV.top) a;⟨x,⟨f,q.2.1,q.2.2.2.1,fun e=>(FS e a).2.2.2.2⟩,b⟩
def ahm{α β:Type}{m:Option α}{C:α->Prop}[CW m C]{k:α->Option β}{r:β}(h:m.bind k=some r):∃x,C x/\k x=some r:=
 let⟨x,a,b⟩:=ar h;⟨x,CW.w x a,b⟩
def ahq{α:Type}{x y z:α}(h:cond true x y=z):x=z:=h
def aht{α:Type}{x y z:α}(h:cond false x y=z):y=z:=h
def aij{α:Type}{x y z:α}(h:cond (!true) x y=z):y=z:=h
def ajb{α:Type}{x y z:α}(h:cond (!false) x y=z):x=z:=h
def jn(ok:Oks)(lv lr:List Nat)(b:aq)(Q:Ex->St->Prop):Ex->St->Prop
 | .nrm,τ=>τ.resOk lv lr/\AWP ok b Q (τ.res lv lr)
 | .ex i,τ=>Q (.ex i) τ
 | .ret,τ=>Q .ret τ
def ZJ:(∀(ok:Oks)(Q:Ex->St->Prop)(σ:St)(a:aq)(lv lr:List Nat)(b:aq),AWP ok (.seqr a lv lr b) Q σ=AWP ok a (jn ok lv lr b Q) σ)/\
 (∀(ok:Oks)(lv lr:List Nat)(b:aq)(Q:Ex->St->Prop)(τ:St),jn ok lv lr b Q .nrm τ=(τ.resOk lv lr/\AWP ok b Q (τ.res lv lr)))/\
 (∀(ok:Oks)(lv lr:List Nat)(b:aq)(Q:Ex->St->Prop)(i:Nat)(τ:St),jn ok lv lr b Q (.ex i) τ=Q (.ex i) τ)/\
 (∀(ok:Oks)(lv lr:List Nat)(b:aq)(Q:Ex->St->Prop)(τ:St),jn ok lv lr b Q .ret τ=Q .ret τ):=
 ⟨fun ok Q σ a lv lr b=>by
  simp only[AWP];congr 1;funext e τ;cases e<;>rfl,fun _ _ _ _ _ _=>rfl,fun _ _ _ _ _ _ _=>rfl,fun _ _ _ _ _ _=>rfl⟩
def ZJB:=A0 ZJ<|A0 @A4.{0,0}<|A0 @List.map_set.{0,0}<|A0 @List.map_replicate.{0,0}<|A0 @List.map_cons.{0,0}<|A0 @List.map_nil.{0,0}<|A0 @B5.{0}<|A0 @B7.{0}<|A0 @B4.{0}<|A0 @B6.{0} @B8.{0}
def ahb{S B:Type}{f:S->Option (S⊕B)}{A C:aq}{lv lr lv' lr':List Nat}{sh:S->St}{sh':B->St}{id n:Nat}[CL f A lv lr sh (qX id lv' lr' sh')]{s0:S}{b:B}{σ:St}{Q:Ex->St->Prop}(g:aY f n s0=some b)
 (hs:Shp lv lr sh s0 σ) (k:AWP (OkS A1) C Q (sh' b)):AWP (OkS A1) (.loop A) (inb id (jn (OkS A1) lv' lr' C Q)) σ:=
 bS _ (bf CL.w g hs) fun e τ h=>by
  obtain⟨rfl,h1,h2⟩:=h;simp only[inb,if_true,jn];exact⟨h1,h2▸k⟩
def aiq{S B R:Type}{f:S->Option (S⊕(B⊕R))}{A C:aq}{lv lr lv' lr':List Nat}{sh:S->St}{sh':B->St}{q:R->Ex->St->Prop}{id n:Nat}[CL f A lv lr sh (qS (qX id lv' lr' sh') q)]{s0:S}{b:B}{σ:St}{Q:Ex->St->Prop}(g:aY f n s0=some (.inl b))
 (hs:Shp lv lr sh s0 σ) (k:AWP (OkS A1) C Q (sh' b)):AWP (OkS A1) (.loop A) (inb id (jn (OkS A1) lv' lr' C Q)) σ:=
 bS _ (bf CL.w g hs) fun e τ h=>by
  obtain⟨rfl,h1,h2⟩:=h;simp only[inb,if_true,jn];exact⟨h1,h2▸k⟩
def ahv{S B R:Type}{f:S->Option (S⊕(B⊕R))}{A:aq}{lv lr:List Nat}{sh:S->St}{q':B->Ex->St->Prop}{V:List RV}{emb:R->AV}{id n:Nat}[CL f A lv lr sh (qS q' (qR V emb))]{s0:S}{b:R}{σ:St}{Q:Ex->St->Prop}(g:aY f n s0=some (.inr b))
 (hs:Shp lv lr sh s0 σ) (k:∀τ,fin V (emb b) .ret τ->inb id Q .ret τ):AWP (OkS A1) (.loop A) (inb id Q) σ:=
 bS _ (bf CL.w g hs) fun e τ h=>by
  obtain⟨rfl,h⟩:=h;exact k τ h
def ahc{S B X:Type}{f:S->Option (S⊕B)}{A C:aq}{lv lr lv' lr':List Nat}{sh:X->S->St}{sh':X->B->St}{id n:Nat}[CX f A lv lr X sh (fun x=>qX id lv' lr' (sh' x))]{x:X}{s0:S}{b:B}{σ:St}{Q:Ex->St->Prop}(g:aY f n s0=some b)
 (hs:Shp lv lr (sh x) s0 σ) (k:AWP (OkS A1) C Q (sh' x b)):AWP (OkS A1) (.loop A) (inb id (jn (OkS A1) lv' lr' C Q)) σ:=
 bS _ (bf (CX.w x) g hs) fun e τ h=>by
  obtain⟨rfl,h1,h2⟩:=h;simp only[inb,if_true,jn];exact⟨h1,h2▸k⟩
def ahy{S B R X:Type}{f:S->Option (S⊕(B⊕R))}{A C:aq}{lv lr lv' lr':List Nat}{sh:X->S->St}{sh':X->B->St}{q:X->R->Ex->St->Prop}{id n:Nat}[CX f A lv lr X sh (fun x=>qS (qX id lv' lr' (sh' x)) (q x))]{x:X}{s0:S}{b:B}{σ:St}{Q:Ex->St->Prop}(g:aY f n s0=some (.inl b))
 (hs:Shp lv lr (sh x) s0 σ) (k:AWP (OkS A1) C Q (sh' x b)):AWP (OkS A1) (.loop A) (inb id (jn (OkS A1) lv' lr' C Q)) σ:=
 bS _ (bf (CX.w x) g hs) fun e τ h=>by
  obtain⟨rfl,h1,h2⟩:=h;simp only[inb,if_true,jn];exact⟨h1,h2▸k⟩
def ahw{S B R X:Type}{f:S->Option (S⊕(B⊕R))}{A:aq}{lv lr:List Nat}{sh:X->S->St}{q':X->B->Ex->St->Prop}{V:List RV}{emb:X->R->AV}{id n:Nat}[CX f A lv lr X sh (fun x=>qS (q' x) (qR V (emb x)))]{x:X}{s0:S}{b:R}{σ:St}{Q:Ex->St->Prop}(g:aY f n s0=some (.inr b))
 (hs:Shp lv lr (sh x) s0 σ) (k:∀τ,fin V (emb x b) .ret τ->inb id Q .ret τ):AWP (OkS A1) (.loop A) (inb id Q) σ:=
 bS _ (bf (CX.w x) g hs) fun e τ h=>by
  obtain⟨rfl,h⟩:=h;exact k τ h
def ZWT{A:Prop}(a:A){W:Prop}(w:W){Q:Prop}(k:Q){ok:Oks}{ρ:Nat->Option Row}{d f:Nat}{args:List AV}{rs:List Nat}{K:AV->List (Nat×Row)->Prop}{res:AV}{outs:List (Nat×Row)}
 (e:A->W->ok.m f (args.map (AV.rg (cnm rs))) (rs.map (iy ρ rs)) res outs:=by intro a w;simp only[VS1,VS2,VS3,VS4,VS5,VS6,VT1,VT2,bj,bl,decide_true,decide_false,A9,A8,cG,cF,cE,ne_eq,not_false_eq_true,B0,B1,true_and,false_and,A5,A6,↓reduceIte,reduceCtorEq,A2,A7,A3,B2,a];first|exact w|(simp only[VS1,VS2,VS3,VS4,VS5,VS6,VT1,VT2,bj,bl,decide_true,decide_false,A9,A8,cG,cF,cE,ne_eq,not_false_eq_true,B0,B1,true_and,false_and,A5,A6,↓reduceIte,reduceCtorEq,A2,A7,A3,B2,a] at w;exact w))
 (h1:rs.Nodup/\(∀r∈rs,cM (ρ r))/\(∀r∈rs,∀q∈ni (ρ r),q∈rs)/\(∀r∈aK args,r∈rs):=by simp[VS1,VS2,VS3,VS4,VS5,VS6,VT1,VT2])
 (h2:(outs.map fun p=>bkn d rs p.1).Nodup/\(∀p∈outs,1000000000<=p.1->p.1-1000000000<rs.length)/\(∀p∈outs,p.1<1000000000->ρ (bkn d rs p.1)=none/\bkn d rs p.1<1000000000):=by first|exact NM1 (ks:=[]) rfl (by decide+kernel)|exact ZQ)
 (g:K (res.rg (bkn d rs)) (cd rs++outs.map (dy d rs))=Q:=by simp only[VA,VF1,↓reduceIte,A2,A7,A6,A5,A3];exact Eq.refl _):callM ok ρ d f args rs K:=gm (e a w) h1 h2 (g.mpr k)
def ZT{F E:Prop}(f:F)(e:E){H:Prop}(h:H){P:Prop}(t:F->E->H->P:=by
 intro f e h
 repeat' (first
  |(with_reducible replace h:=aiu h)
  |(with_reducible replace h:=ahe h)
  |(with_reducible obtain⟨x,f,h⟩:=aje f h)
  |(with_reducible replace h:=ajc h)
  |(with_reducible replace h:=ahq h)
  |(with_reducible replace h:=aht h)
  |(with_reducible replace h:=aij h)
  |(with_reducible replace h:=ajb h)
  |(with_reducible obtain⟨f,h⟩|⟨f,h⟩:=ahf f h)
  |(with_reducible obtain⟨f,h⟩|⟨f,h⟩:=aii f h)
  |((with_reducible obtain⟨q,h⟩:=aio h);(try simp only[B5,B6,B8,B7,B4,Nat.zero_add] at q);replace f:=ZA f q)
  |(with_reducible obtain⟨f,h⟩:=aip f h)
  |(with_reducible obtain⟨x,f,h⟩:=ait f h)
  |(with_reducible obtain⟨x,f,h⟩:=aiz f h)
  |(with_reducible obtain⟨x,f,h⟩:=aid f h)
  |(with_reducible obtain⟨x,f,h⟩:=ahg f h)
  |((with_reducible obtain⟨x,w,h⟩:=ahm h);refine ZF f ?_;(repeat (refine⟨ZK trivial,?_⟩;(try simp only[ZC,e]);refine ZF f ?_));first|refine ZSG f w ?_|refine ZUG f w ?_|refine ZWT f w ?_)
  |(cases h;exact ZL f (ZA ZC e))
  |((with_reducible obtain⟨x,w,h⟩:=ar h);(try refine ZF f ?_);(repeat (refine⟨ZK trivial,?_⟩;(try simp only[ZC,e]);(try refine ZF f ?_)));first
   |((first|refine ahb w (ZK e) ?_|refine ahc (x:=by assumption) w (ZK e) ?_);simp only[ZC,e])
   |(rcases x with x|x;rotate_left;(first|refine ahv w (ZK e) ?_|refine ahw (x:=by assumption) w (ZK e) ?_);simp only[] at h;intro τ q;cases h;(first|exact q|(simp[inb,thn,jn];exact q));(first|refine aiq w (ZK e) ?_|refine ahy (x:=by assumption) w (ZK e) ?_);simp only[ZC,e];simp only[] at h)))):P:=t f e h
theorem ZO{R:Type}{m b:Option R}{r:R}{f k:Nat}{A:aq}{V:List RV}{args:List AV}{res:AV}{E F:Prop}(hm:aU A1 f k A V=true)(u:m=b)(f0:F)(e:E)(h:m=some r)(hl:args.length=k:=by rfl)
 (t:F->E->b=some r->UA (OkS A1) A V args res:=by intro f e h;simp only[ZC,e,dg];exact ZT f e h):Ok A1 f args res:=bJ cr hm hl (t f0 e (u.symm.trans h))
instance(b:List ByteArray):CL (M_c b) Fb [0,1,5] [] (S_c b) (qS (qX 0 [1] [] (jp)) (qR V85 (fun r=>.i r))):=⟨fun d o h=>by
 unfold M_c at h;simp only[ZC,S_c,Fb];exact ZT trivial (ZA @S_c.eq_1 (ZA @jp.eq_1 (ZA @V85.eq_1 @Fb.eq_1))) h⟩
instance(b:List ByteArray)(c:Int):CW (LA b c) (fun(r:Int)=>Ok A1 85 [.lst .o 1 (b.map AV.z),.i c] (.i r)):=⟨fun r h=>ZO m85 (LA.eq_1 _ _) ZJ (ZA @S_c.eq_1 (ZA @jp.eq_1 (ZA @YY.eq_1 (ZA @V85.eq_1 @A85.eq_1)))) h⟩
instance(b:List aw)(c:Int):CW (Sa b c) (fun(r:Int)=>Ok A1 86 [.lst .o 4 (b.map (au .o)),.i c] (.i r)):=⟨fun r h=>ZO m86 (Sa.eq_1 _ _) trivial (ZA @V85.eq_1 @A86.eq_1) h⟩
instance(b:ah)(d:Int):CW (PL b d) (fun(r:Int)=>Ok A1 34 [(aG .o b),.i d] (.i r)):=⟨fun r h=>ZO m34 (PL.eq_1 _ _) trivial (ZA @V85.eq_1 @A34.eq_1) h⟩
instance(b:List Int)(c:Int):CW (GZ b c) (fun(r:Int)=>Ok A1 60 [.lst .o 1 (b.map AV.i),.i c] (.i r)):=⟨fun r h=>ZO m60 (GZ.eq_1 _ _) trivial (ZA @V85.eq_1 @A60.eq_1) h⟩
instance(a:aj)(c:Int):CW (Sq a c) (fun(r:Int)=>Ok A1 147 [(ay .o a),.i c] (.i r)):=⟨fun r h=>ZO m147 (Sq.eq_1 _ _) trivial (ZA @V85.eq_1 @A147.eq_1) h⟩
instance(a:af)(c:Int):CW (MR a c) (fun(r:Int)=>Ok A1 124 [(ai .o a),.i c] (.i r)):=⟨fun r h=>ZO m124 (MR.eq_1 _ _) trivial (ZA @V85.eq_1 @A124.eq_1) h⟩
def Al(a:List af)(v:Int×Int):St:=⟨[(0,.lst .o 5 (a.map (ai .o))),(1,.i v.1),(5,.i v.2)],[]⟩
instance(a:List af):CL (Hx a) Fe [0,1,5] [] (Al a) (qS (qX 0 [1] [] (jp)) (qR V85 (fun r=>.i r))):=⟨fun d o h=>by
 unfold Hx at h;simp only[ZC,Al,Fe];exact ZT trivial (ZA @Al.eq_1 (ZA @jp.eq_1 (ZA @V85.eq_1 @Fe.eq_1))) h⟩
instance(b:List af)(c:Int):CW (SQ b c) (fun(r:Int)=>Ok A1 59 [.lst .o 5 (b.map (ai .o)),.i c] (.i r)):=⟨fun r h=>ZO m59 (SQ.eq_1 _ _) ZJ (ZA @Al.eq_1 (ZA @jp.eq_1 (ZA @aar.eq_1 (ZA @V85.eq_1 @A59.eq_1)))) h⟩
instance(b:aB)(d:Int):CW (MD b d) (fun(r:Int)=>Ok A1 24 [(bv .o b),.i d] (.i r)):=⟨fun r h=>ZO m24 (MD.eq_1 _ _) trivial (ZA @V85.eq_1 @A24.eq_1) h⟩
instance(a:ax)(d:Int):CW (Ny a d) (fun(r:Int)=>Ok A1 120 [(aF .o a),.i d] (.i r)):=⟨fun r h=>ZO m120 (Ny.eq_1 _ _) trivial (ZA @V85.eq_1 @A120.eq_1) h⟩
def Vz(a:List ax)(v:Int×Int):St:=⟨[(0,.lst .o 2 (a.map (aF .o))),(1,.i v.1),(5,.i v.2)],[]⟩
instance(a:List ax):CL (Hk a) FK [0,1,5] [] (Vz a) (qS (qX 0 [1] [] (jp)) (qR V85 (fun r=>.i r))):=⟨fun d o h=>by
 unfold Hk at h;simp only[ZC,Vz,FK];exact ZT trivial (ZA @Vz.eq_1 (ZA @jp.eq_1 (ZA @V85.eq_1 @FK.eq_1))) h⟩
instance(b:List ax)(c:Int):CW (Pz b c) (fun(r:Int)=>Ok A1 53 [.lst .o 2 (b.map (aF .o)),.i c] (.i r)):=⟨fun r h=>ZO m53 (Pz.eq_1 _ _) ZJ (ZA @Vz.eq_1 (ZA @jp.eq_1 (ZA @aaa.eq_1 (ZA @V85.eq_1 @A53.eq_1)))) h⟩
def Ut(a:List ByteArray)(v:Int×List ByteArray):St:=⟨[(0,.lst .o 1 (a.map AV.z)),(3,.sl 3 0 v.2.length),(4,.i v.1)],[(3,.arr 1 (v.2.map AV.z))]⟩
def RA(v:List ByteArray):St:=⟨[(3,.sl 3 0 v.length)],[(3,.arr 1 (v.map AV.z))]⟩
instance(b:List ByteArray):CL (GG b) DL [0,3,4] [3] (Ut b) (qX 0 [3] [3] (RA)):=⟨fun a o h=>by
 unfold GG at h;simp only[ZC,Ut,DL];exact ZT ZJB (ZA @Ut.eq_1 (ZA @RA.eq_1 @DL.eq_1)) h⟩
instance(a:List ByteArray):CW (Sr a) (fun(r:List ByteArray)=>Ok A1 91 [.lst .o 1 (a.map AV.z)] (.lst .u 1 (r.map AV.z))):=⟨fun r h=>ZO m91 (Sr.eq_1 _) ZJB (ZA @Ut.eq_1 (ZA @RA.eq_1 (ZA @aaj.eq_1 (ZA @V91.eq_1 @A91.eq_1)))) h⟩
instance(a:aw):CW (Jb a) (fun(r:aw)=>Ok A1 150 [(au .o a)] (.agg [.i r.A,.i r.B,.i r.F,.i r.N])):=⟨fun r h=>ZO m150 (Jb.eq_1 _) trivial (ZA @V150.eq_1 @A150.eq_1) h⟩
def Xn(a:List aw)(v:Int×List aw):St:=⟨[(0,.lst .o 4 (a.map (au .o))),(3,.sl 3 0 v.2.length),(4,.i v.1)],[(3,.arr 4 (v.2.map (au .u)))]⟩
def Nb(v:List aw):St:=⟨[(3,.sl 3 0 v.length)],[(3,.arr 4 (v.map (au .u)))]⟩
instance(c:List aw):CL (HW c) EE [0,3,4] [3] (Xn c) (qX 0 [3] [3] (Nb)):=⟨fun a o h=>by
 unfold HW at h;simp only[ZC,Xn,EE];exact ZT ZJB (ZA @Xn.eq_1 (ZA @Nb.eq_1 @EE.eq_1)) h⟩
instance(a:List aw):CW (Qr a) (fun(r:List aw)=>Ok A1 92 [.lst .o 4 (a.map (au .o))] (.lst .u 4 (r.map (au .u)))):=⟨fun r h=>ZO m92 (Qr.eq_1 _) ZJB (ZA @Xn.eq_1 (ZA @Nb.eq_1 (ZA @aad.eq_1 (ZA @V91.eq_1 @A92.eq_1)))) h⟩
instance(a:ah):CW (SK a) (fun(r:ah)=>Ok A1 37 [(aG .o a)] (.agg [.lst .u 1 (r.N.map AV.z),.lst .u 4 (r.F.map (au .u))])):=⟨fun r h=>ZO m37 (SK.eq_1 _) trivial (ZA @V37.eq_1 @A37.eq_1) h⟩
def S_g(a:List Int)(v:Int×List Int):St:=⟨[(0,.lst .o 1 (a.map AV.i)),(3,.sl 3 0 v.2.length),(4,.i v.1)],[(3,.arr 1 (v.2.map AV.i))]⟩
def qt(v:List Int):St:=⟨[(3,.sl 3 0 v.length)],[(3,.arr 1 (v.map AV.i))]⟩
instance(b:List Int):CL (M_g b) Fp [0,3,4] [3] (S_g b) (qX 0 [3] [3] (qt)):=⟨fun a o h=>by
 unfold M_g at h;simp only[ZC,S_g,Fp];exact ZT ZJB (ZA @S_g.eq_1 (ZA @qt.eq_1 @Fp.eq_1)) h⟩
instance(a:List Int):CW (Iv a) (fun(r:List Int)=>Ok A1 32 [.lst .o 1 (a.map AV.i)] (.lst .u 1 (r.map AV.i))):=⟨fun r h=>ZO m32 (Iv.eq_1 _) ZJB (ZA @S_g.eq_1 (ZA @qt.eq_1 (ZA @ZY.eq_1 (ZA @V91.eq_1 @A32.eq_1)))) h⟩
instance(a:aj):CW (QD a) (fun(r:aj)=>Ok A1 151 [(ay .o a)] (.agg [.i r.N,.lst .u 1 (r.F.map AV.i)])):=⟨fun r h=>ZO m151 (QD.eq_1 _) trivial (ZA @V37.eq_1 @A151.eq_1) h⟩
instance(a:aX):CW (NI a) (fun(r:aX)=>Ok A1 152 [(bN .o a)] (.agg [.i r.N,.i r.F])):=⟨fun r h=>ZO m152 (NI.eq_1 _) trivial (ZA @V37.eq_1 @A152.eq_1) h⟩
instance(a:af):CW (IH a) (fun(r:af)=>Ok A1 127 [(ai .o a)] (.agg [.i r.Id,.i r.F.N,.lst .u 1 (r.F.F.map AV.i),.i r.N.N,.i r.N.F])):=⟨fun r h=>ZO m127 (IH.eq_1 _) trivial (ZA @Av.eq_1 @A127.eq_1) h⟩
def S_q(a:List af)(v:Int×List af):St:=⟨[(0,.lst .o 5 (a.map (ai .o))),(3,.sl 3 0 v.2.length),(4,.i v.1)],[(3,.arr 5 (v.2.map (ai .u)))]⟩
def JI(v:List af):St:=⟨[(3,.sl 3 0 v.length)],[(3,.arr 5 (v.map (ai .u)))]⟩
instance(c:List af):CL (M_q c) ED [0,3,4] [3] (S_q c) (qX 0 [3] [3] (JI)):=⟨fun b o h=>by
 unfold M_q at h;simp only[ZC,S_q,ED];exact ZT ZJB (ZA @S_q.eq_1 (ZA @JI.eq_1 @ED.eq_1)) h⟩
instance(a:List af):CW (OC a) (fun(r:List af)=>Ok A1 62 [.lst .o 5 (a.map (ai .o))] (.lst .u 5 (r.map (ai .u)))):=⟨fun r h=>ZO m62 (OC.eq_1 _) ZJB (ZA @S_q.eq_1 (ZA @JI.eq_1 (ZA @YR.eq_1 (ZA @V91.eq_1 @A62.eq_1)))) h⟩
instance(a:aB):CW (Ae a) (fun(r:aB)=>Ok A1 26 [(bv .o a)] (.agg [.lst .u 1 (r.F.N.map AV.z),.lst .u 4 (r.F.F.map (au .u)),.lst .u 5 (r.N.map (ai .u))])):=⟨fun r h=>ZO m26 (Ae.eq_1 _) trivial (ZA @V26.eq_1 @A26.eq_1) h⟩
instance(a:ax):CW (Kb a) (fun(r:ax)=>Ok A1 122 [(aF .o a)] (.agg [.b r.N,.lst .u 1 (r.F.map AV.i)])):=⟨fun r h=>ZO m122 (Kb.eq_1 _) trivial (ZA @V37.eq_1 @A122.eq_1) h⟩
def Yi(a:List ax)(v:Int×List ax):St:=⟨[(0,.lst .o 2 (a.map (aF .o))),(3,.sl 3 0 v.2.length),(4,.i v.1)],[(3,.arr 2 (v.2.map (aF .u)))]⟩
def Rj(v:List ax):St:=⟨[(3,.sl 3 0 v.length)],[(3,.arr 2 (v.map (aF .u)))]⟩
instance(c:List ax):CL (Ja c) Fw [0,3,4] [3] (Yi c) (qX 0 [3] [3] (Rj)):=⟨fun a o h=>by
 unfold Ja at h;simp only[ZC,Yi,Fw];exact ZT ZJB (ZA @Yi.eq_1 (ZA @Rj.eq_1 @Fw.eq_1)) h⟩
instance(a:List ax):CW (zY a) (fun(r:List ax)=>Ok A1 55 [.lst .o 2 (a.map (aF .o))] (.lst .u 2 (r.map (aF .u)))):=⟨fun r h=>ZO m55 (zY.eq_1 _) ZJB (ZA @Yi.eq_1 (ZA @Rj.eq_1 (ZA @ZZ.eq_1 (ZA @V91.eq_1 @A55.eq_1)))) h⟩
instance(c:Int)(d:Int)(g:Int):CW (M_u c d g) (fun(r:Bool)=>Ok A1 178 [.i c,.i d,.i g] (.b r)):=⟨fun r h=>ZO m178 (M_u.eq_1 _ _ _) trivial (ZA @jw.eq_1 @A178.eq_1) h⟩
instance(i:Int):CW (Ro i) (fun(r:Bool)=>Ok A1 224 [.sc (.int .u8 i)] (.b r)):=⟨fun r h=>ZO m224 (Ro.eq_1 _) trivial (ZA @abh.eq_1 (ZA @V91.eq_1 @abh.eq_1)) h⟩
def S_a(a:ByteArray)(v:Int):St:=⟨[(0,.z a),(3,.i v)],[]⟩
def cz(v:Unit):St:=⟨[],[]⟩
instance(a:ByteArray):CL (M_a a) wj [0,3] [] (S_a a) (qS (qX 0 [] [] (cz)) (qR V91 (fun r=>.b r))):=⟨fun g o h=>by
 unfold M_a at h;simp only[ZC,S_a,wj];exact ZT trivial (ZA @S_a.eq_1 (ZA @cz.eq_1 (ZA @V91.eq_1 @wj.eq_1))) h⟩
instance(a:ByteArray):CW (Sj a) (fun(r:Bool)=>Ok A1 187 [.z a] (.b r)):=⟨fun r h=>ZO m187 (Sj.eq_1 _) ZJ (ZA @S_a.eq_1 (ZA @cz.eq_1 (ZA @Lz.eq_1 (ZA @KM.eq_1 (ZA @V91.eq_1 @A187.eq_1))))) h⟩
def TZ(a:List ByteArray)(b:ByteArray)(v:Int):St:=⟨[(0,.lst .o 1 (a.map AV.z)),(1,.z b),(5,.i v)],[]⟩
instance(b:List ByteArray)(c:ByteArray):CL (Jd b c) xd [0,1,5] [] (TZ b c) (qS (qX 0 [] [] (cz)) (qR V85 (fun r=>.i r))):=⟨fun g o h=>by
 unfold Jd at h;simp only[ZC,TZ,xd];exact ZT trivial (ZA @TZ.eq_1 (ZA @cz.eq_1 (ZA @V85.eq_1 @xd.eq_1))) h⟩
instance(a:List ByteArray)(b:ByteArray):CW (Qg a b) (fun(r:Int)=>Ok A1 188 [.lst .o 1 (a.map AV.z),.z b] (.i r)):=⟨fun r h=>ZO m188 (Qg.eq_1 _ _) ZJ (ZA @TZ.eq_1 (ZA @cz.eq_1 (ZA @PZ.eq_1 (ZA @V85.eq_1 @A188.eq_1)))) h⟩
instance(c:aw)(j:Int):CW (Sk c j) (fun(r:Bool)=>Ok A1 189 [(au .o c),.i j] (.b r)):=⟨fun r h=>ZO m189 (Sk.eq_1 _ _) trivial (ZA @afd.eq_1 (ZA @V85.eq_1 @afd.eq_1)) h⟩
instance(a:aw)(b:aw):CW (Lp a b) (fun(r:Int)=>Ok A1 190 [(au .o a),(au .o b)] (.i r)):=⟨fun r h=>ZO m190 (Lp.eq_1 _ _) trivial (ZA @adt.eq_1 (ZA @V85.eq_1 @adt.eq_1)) h⟩
def S_k(a:ah)(v:Int):St:=⟨[(1,.pt 1 0 0),(3,.i v)],[(1,.var (aG .o a))]⟩
def zl(a:ah)(v:Unit):St:=⟨[(1,.pt 1 0 0)],[(1,.var (aG .o a))]⟩
instance(a:ah):CL (M_k a) vZ [1,3] [1] (S_k a) (qS (qX 0 [1] [1] (zl a)) (qR V91 (fun r=>.b r))):=⟨fun d o h=>by
 unfold M_k at h;simp only[ZC,S_k,vZ];exact ZT ZJ (ZA @S_k.eq_1 (ZA @zl.eq_1 (ZA @V91.eq_1 (ZA @vZ.eq_1 @Lu.eq_1)))) h⟩
def Ug(a:ah)(v:Int):St:=⟨[(1,.pt 1 0 0),(4,.i v)],[(1,.var (aG .o a))]⟩
instance(c:ah):CL (IY c) wL [1,4] [1] (Ug c) (qS (qX 2 [] [] (cz)) (qR V91 (fun r=>.b r))):=⟨fun g o h=>by
 unfold IY at h;simp only[ZC,Ug,wL];exact ZT ZJ (ZA @Ug.eq_1 (ZA @cz.eq_1 (ZA @V91.eq_1 (ZA @wL.eq_1 @Pn.eq_1)))) h⟩
instance(a:ah):CW (BF a) (fun(r:Bool)=>Ok A1 138 [(aG .o a)] (.b r)):=⟨fun r h=>ZO m138 (BF.eq_1 _) ZJ (ZA @S_k.eq_1 (ZA @zl.eq_1 (ZA @Ug.eq_1 (ZA @cz.eq_1 (ZA @NR.eq_1 (ZA @NM.eq_1 (ZA @QO.eq_1 (ZA @V91.eq_1 @A138.eq_1)))))))) h⟩
instance(b:ah)(g:Int)(j:Int):CW (BQ b g j) (fun(r:Int)=>Ok A1 246 [(aG .o b),.i g,.i j] (.i r)):=⟨fun r h=>ZO m246 (BQ.eq_1 _ _ _) trivial (ZA @jw.eq_1 @A246.eq_1) h⟩
def Xt(a:List Int)(b:Int)(v:Int):St:=⟨[(0,.lst .o 1 (a.map AV.i)),(1,.i b),(5,.i v)],[]⟩
instance(c:List Int)(d:Int):CL (GH c d) xb [0,1,5] [] (Xt c d) (qS (qX 0 [] [] (cz)) (qR V85 (fun r=>.b r))):=⟨fun i o h=>by
 unfold GH at h;simp only[ZC,Xt,xb];exact ZT trivial (ZA @Xt.eq_1 (ZA @cz.eq_1 (ZA @V85.eq_1 @xb.eq_1))) h⟩
instance(a:List Int)(c:Int):CW (tV a c) (fun(r:Bool)=>Ok A1 144 [.lst .o 1 (a.map AV.i),.i c] (.b r)):=⟨fun r h=>ZO m144 (tV.eq_1 _ _) ZJ (ZA @Xt.eq_1 (ZA @cz.eq_1 (ZA @Nm.eq_1 (ZA @V85.eq_1 @A144.eq_1)))) h⟩
def S_v(a:ah)(b:aj)(v:Int×List Int):St:=⟨[(2,.pt 2 0 0),(3,.pt 3 0 0),(6,.sl 6 0 v.2.length),(7,.i v.1)],[(2,.var (aG .o a)),(3,.var (ay .o b)),(6,.arr 1 (v.2.map AV.i))]⟩
def GY(v:List Int):St:=⟨[(6,.sl 6 0 v.length)],[(6,.arr 1 (v.map AV.i))]⟩
instance(c:ah)(d:aj):CL (M_v c d) Ck [2,3,6,7] [2,3,6] (S_v c d) (qS (qX 0 [6] [6] (GY)) (qR yk (fun r=>.tup [.lst .u 1 (r.1.map AV.i),.b r.2]))):=⟨fun a o h=>by
 unfold M_v at h;simp only[ZC,S_v,Ck];exact ZT ZJB (ZA @yk.eq_1 (ZA @S_v.eq_1 (ZA @GY.eq_1 @KR.eq_1))) h⟩
instance(c:ah)(a:aj):CW (Hj c a) (fun(r:List Int×Bool)=>Ok A1 220 [(aG .o c),(ay .o a)] (.tup [.lst .u 1 (r.1.map AV.i),.b r.2])):=⟨fun r h=>ZO m220 (Hj.eq_1 _ _) ZJB (ZA @S_v.eq_1 (ZA @GY.eq_1 (ZA @KV.eq_1 (ZA @Mh.eq_1 (ZA @yk.eq_1 @A220.eq_1))))) h⟩
instance(c:ah)(d:aj):CW (Ga c d) (fun(r:Bool)=>Ok A1 191 [(aG .o c),(ay .o d)] (.b r)):=⟨fun r h=>ZO m191 (Ga.eq_1 _ _) trivial (ZA @V85.eq_1 @A191.eq_1) h⟩
instance(c:aX):CW (NU c) (fun(r:Bool)=>Ok A1 192 [(bN .o c)] (.b r)):=⟨fun r h=>ZO m192 (NU.eq_1 _) trivial (ZA @V91.eq_1 @A192.eq_1) h⟩
instance(d:ah)(a:af):CW (RI d a) (fun(r:Bool)=>Ok A1 139 [(aG .o d),(ai .o a)] (.b r)):=⟨fun r h=>ZO m139 (RI.eq_1 _ _) trivial (ZA @V85.eq_1 @A139.eq_1) h⟩
def WJ(a:aj)(b:List Int)(v:Int):St:=⟨[(1,.lst .o 1 (b.map AV.i)),(2,.pt 2 0 0),(5,.i v)],[(2,.var (ay .o a))]⟩
instance(a:aj)(c:List Int):CL (GM a c) wq [1,2,5] [2] (WJ a c) (qS (qX 0 [] [] (cz)) (qR V85 (fun r=>.b r))):=⟨fun i o h=>by
 unfold GM at h;simp only[ZC,WJ,wq];exact ZT trivial (ZA @WJ.eq_1 (ZA @cz.eq_1 (ZA @V85.eq_1 @wq.eq_1))) h⟩
instance(a:aj)(c:List Int):CW (vW a c) (fun(r:Bool)=>Ok A1 125 [(ay .o a),.lst .o 1 (c.map AV.i)] (.b r)):=⟨fun r h=>ZO m125 (vW.eq_1 _ _) ZJ (ZA @WJ.eq_1 (ZA @cz.eq_1 (ZA @MX.eq_1 (ZA @V85.eq_1 @A125.eq_1)))) h⟩
instance(a:aX):CW (rJ a) (fun(r:Int)=>Ok A1 167 [(bN .o a)] (.i r)):=⟨fun r h=>ZO m167 (rJ.eq_1 _) trivial (ZA @V91.eq_1 @A167.eq_1) h⟩
instance(c:af)(d:af):CW (RM c d) (fun(r:Bool)=>Ok A1 140 [(ai .o c),(ai .o d)] (.b r)):=⟨fun r h=>ZO m140 (RM.eq_1 _ _) trivial (ZA @V85.eq_1 @A140.eq_1) h⟩
def SV(a:aB)(b:Int)(v:Int):St:=⟨[(1,.pt 1 0 0),(3,.i b),(4,.i v)],[(1,.var (bv .o a))]⟩
def EY(a:aB)(b:Int)(v:Unit):St:=⟨[(1,.pt 1 0 0),(3,.i b)],[(1,.var (bv .o a))]⟩
instance(a:aB)(c:Int):CL (Dm a c) EP [1,3,4] [1] (SV a c) (qS (qX 2 [1,3] [1] (EY a c)) (qR V91 (fun r=>.b r))):=⟨fun i o h=>by
 unfold Dm at h;simp only[ZC,SV,EP];exact ZT trivial (ZA @SV.eq_1 (ZA @EY.eq_1 (ZA @V91.eq_1 @EP.eq_1))) h⟩
def UN(a:aB)(v:Int):St:=⟨[(1,.pt 1 0 0),(3,.i v)],[(1,.var (bv .o a))]⟩
instance(a:aB):CL (HC a) Ot [1,3] [1] (UN a) (qS (qX 0 [] [] (cz)) (qR V91 (fun r=>.b r))):=⟨fun d o h=>by
 have e:=ZA @UN.eq_1 @cz.eq_1;unfold HC at h;simp only[ZC,UN,Ot];obtain⟨c,h⟩|⟨c,h⟩:=aM h
 ·obtain⟨w,x,h⟩:=ar h;try refine ZF c ?_
  refine gw (sh:=(fun v=>⟨[(1,.pt 1 0 0),(3,.i d)],[(1,.var (bv .o a))]⟩)) (q:=(qR V91 (fun r=>.b r))) (o:=w) ?_ (fun j1 hv=>?_) (fun k1 hv e τ hne hq=>?_)
  ·replace h:=x;obtain⟨y,a1,h⟩:=ar h;try refine ZF c ?_
   refine ba (sh:=(fun v=>⟨[(1,.pt 1 0 0),(3,.i d),(50,.b v)],[(1,.var (bv .o a))]⟩)) (s:=y) ?_ ?_
   ·replace h:=a1;obtain⟨l1,b1,h⟩:=ar h;obtain⟨m1,c1,h⟩:=ar h;have f:=ZA c (ec b1);refine ZF f ?_;refine ZSG f (CW.w _ c1) ?_;obtain⟨g,h⟩|⟨g,h⟩:=aM h
    ·cases h;exact ZL (ZA f g) trivial
    ·obtain⟨j,h⟩|⟨j,h⟩:=aM h
     ·obtain⟨p1,d1,h⟩:=ar h;cases h;exact ZL (ZA f (ZA g (ZA j (ec d1)))) trivial
     ·cases h;exact ZL (ZA f (ZA g j)) trivial
   ·simp only[ZC,Zz];obtain⟨k,h⟩|⟨k,h⟩:=aM h
    ·cases h;exact ZL (ZA c k) @V91.eq_1
    ·obtain⟨l,m,h⟩:=ar h;try refine ZF (ZA c k) ?_
     first|refine vy (o:=l) (gG zd (bf CL.w m ?_)) (fun g1 hv τ p=>?_) (fun i1 hv e τ hne hq=>?_)|refine QS (o:=l) zd (bf CL.w m ?_) (fun g1 hv τ p=>?_) (fun i1 hv e τ hne hq=>?_)
     ·exact ZK (ZA @SV.eq_1 @EY.eq_1)
     ·subst hv;simp only[] at h;cases h;try refine ZF trivial ?_
      refine⟨rfl,Shp.sub p (by decide) (by decide) ?_⟩;exact ZK @EY.eq_1
     ·subst hv;simp only[] at h;obtain⟨rfl,t⟩:=hq;cases h;try refine ZF trivial ?_
      first|exact⟨by simp,t⟩|exact⟨by simp,rfl,t⟩
  ·subst hv;simp only[] at h;simp only[ZC,ZX];cases h;exact ZL c e
  ·subst hv;simp only[] at h;obtain⟨rfl,u⟩:=hq;cases h;try refine ZF trivial ?_
   first|exact⟨by simp,u⟩|exact⟨by simp,rfl,u⟩
 ·cases h;exact ZL c e⟩
instance(a:aB):CW (MQ a) (fun(r:Bool)=>Ok A1 74 [(bv .o a)] (.b r)):=⟨fun r h=>ZO m74 (MQ.eq_1 _) ZJ (ZA @UN.eq_1 (ZA @cz.eq_1 (ZA @Yx.eq_1 (ZA @YZ.eq_1 (ZA @V91.eq_1 @A74.eq_1))))) h⟩
instance(a:ah):CW (UE a) (fun(r:ah)=>Ok A1 89 [(aG .o a)] (.agg [.lst .u 1 (r.N.map AV.z),.lst .u 4 (r.F.map (au .u))])):=⟨fun r h=>ZO m89 (UE.eq_1 _) trivial (ZA @V37.eq_1 @A89.eq_1) h⟩
instance(a:List Int):CW (M_t a) (fun(r:List Int)=>Ok A1 194 [.lst .o 1 (a.map AV.i)] (.lst .u 1 (r.map AV.i))):=⟨fun r h=>ZO m194 (M_t.eq_1 _) trivial (ZA @V91.eq_1 @A194.eq_1) h⟩
instance(a:aj):CW (Jy a) (fun(r:aj)=>Ok A1 193 [(ay .o a)] (.agg [.i r.N,.lst .u 1 (r.F.map AV.i)])):=⟨fun r h=>ZO m193 (Jy.eq_1 _) trivial (ZA @V37.eq_1 @A193.eq_1) h⟩
instance(a:af):CW (qj a) (fun(r:af)=>Ok A1 141 [(ai .o a)] (.agg [.i r.Id,.i r.F.N,.lst .u 1 (r.F.F.map AV.i),.i r.N.N,.i r.N.F])):=⟨fun r h=>ZO m141 (qj.eq_1 _) trivial (ZA @Av.eq_1 @A141.eq_1) h⟩
def S_w(b:aB)(a:ah)(v:Int×List af):St:=⟨[(1,.pt 1 0 0),(2,.pt 2 0 0),(3,.pt 3 0 0),(4,.i v.1)],[(1,.var (bv .o b)),(2,.var (.agg [.lst .u 1 [],.lst .u 4 [],.lst .u 5 []])),(3,.var (.agg [.sl 500000192 0 a.N.length,.sl 500000193 0 a.F.length,.sl 500000194 0 v.2.length])),(500000192,.arr 1 (a.N.map AV.z)),(500000193,.arr 4 (a.F.map (au .u))),(500000194,.arr 5 (v.2.map (ai .u)))]⟩
def Ji(a:ah)(v:List af):St:=⟨[(2,.pt 2 0 0),(3,.pt 3 0 0)],[(2,.var (.agg [.lst .u 1 [],.lst .u 4 [],.lst .u 5 []])),(3,.var (.agg [.sl 500000192 0 a.N.length,.sl 500000193 0 a.F.length,.sl 500000194 0 v.length])),(500000192,.arr 1 (a.N.map AV.z)),(500000193,.arr 4 (a.F.map (au .u))),(500000194,.arr 5 (v.map (ai .u)))]⟩
instance(d:aB):CX (M_w d) Ey [1,2,3,4] [1,2,3,500000192,500000193,500000194] (ah) (fun g=>(S_w d g)) (fun g=>(qX 0 [2,3] [2,3,500000192,500000193,500000194] (Ji g))):=⟨fun g b o h=>by
 unfold M_w at h;simp only[ZC,S_w,Ey];exact ZT ZJB (ZA @S_w.eq_1 (ZA @Ji.eq_1 @Ey.eq_1)) h⟩
instance(a:aB):CW (ng a) (fun(r:aB)=>Ok A1 75 [(bv .o a)] (.agg [.lst .u 1 (r.F.N.map AV.z),.lst .u 4 (r.F.F.map (au .u)),.lst .u 5 (r.N.map (ai .u))])):=⟨fun r h=>ZO m75 (ng.eq_1 _) ZJ (ZA @S_w.eq_1 (ZA @Ji.eq_1 (ZA @Yt.eq_1 (ZA @V26.eq_1 @A75.eq_1)))) h⟩
def VD(a:List af)(v:Int×List af):St:=⟨[(0,.lst .o 5 (a.map (ai .o))),(3,.sl 3 0 v.2.length),(4,.i v.1)],[(3,.arr 5 (v.2.map (ai .u)))]⟩
instance(d:List af):CL (Jh d) EN [0,3,4] [3] (VD d) (qX 0 [3] [3] (JI)):=⟨fun b o h=>by
 unfold Jh at h;simp only[ZC,VD,EN];exact ZT ZJB (ZA @VD.eq_1 (ZA @JI.eq_1 @EN.eq_1)) h⟩
instance(a:List af):CW (Gv a) (fun(r:List af)=>Ok A1 76 [.lst .o 5 (a.map (ai .o))] (.lst .u 5 (r.map (ai .u)))):=⟨fun r h=>ZO m76 (Gv.eq_1 _) ZJ (ZA @VD.eq_1 (ZA @JI.eq_1 (ZA @YU.eq_1 (ZA @V91.eq_1 @A76.eq_1)))) h⟩
instance(c:aB):CW (LD c) (fun(r:ae×Bool)=>Ok A1 25 [(bv .o c)] (.tup [.agg [.lst .u 1 (r.1.F.F.N.map AV.z),.lst .u 4 (r.1.F.F.F.map (au .u)),.lst .u 5 (r.1.F.N.map (ai .u)),.lst .u 5 (r.1.N.map (ai .u)),.lst .u 1 (r.1.L.map AV.i)],.b r.2])):=⟨fun r h=>ZO m25 (LD.eq_1 _) trivial (ZA @V25.eq_1 @A25.eq_1) h⟩
def Yp(a:List Int)(b:Int)(c:Int)(v:Int):St:=⟨[(0,.lst .o 1 (a.map AV.i)),(1,.i b),(2,.i c),(7,.i v)],[]⟩
instance(c:List Int)(d:Int)(g:Int):CL (Ho c d g) xn [0,1,2,7] [] (Yp c d g) (qS (qX 0 [] [] (cz)) (qR jw (fun r=>.b r))):=⟨fun k o h=>by
 unfold Ho at h;simp only[ZC,Yp,xn];exact ZT ZJ (ZA @Yp.eq_1 (ZA @cz.eq_1 (ZA @jw.eq_1 (ZA @xn.eq_1 @Pa.eq_1)))) h⟩
instance(a:List Int)(c:Int)(d:Int):CW (Sm a c d) (fun(r:Bool)=>Ok A1 121 [.lst .o 1 (a.map AV.i),.i c,.i d] (.b r)):=⟨fun r h=>ZO m121 (Sm.eq_1 _ _ _) ZJ (ZA @Yp.eq_1 (ZA @cz.eq_1 (ZA @Oj.eq_1 (ZA @jw.eq_1 @A121.eq_1)))) h⟩
instance(a:ae):CW (li a) (fun(r:ae)=>Ok A1 143 [(aI .o a)] (.agg [.lst .u 1 (r.F.F.N.map AV.z),.lst .u 4 (r.F.F.F.map (au .u)),.lst .u 5 (r.F.N.map (ai .u)),.lst .u 5 (r.N.map (ai .u)),.lst .u 1 (r.L.map AV.i)])):=⟨fun r h=>ZO m143 (li.eq_1 _) trivial (ZA @Av.eq_1 @A143.eq_1) h⟩
def Nt(b:Int)(a:List Int)(v:Int):St:=⟨[(0,.sl 1000000000 0 a.length),(1,.i b),(5,.i v)],[(1000000000,.arr 1 (a.map AV.i))]⟩
instance(a:Int)(b:List Int):CL (JP a b) oL [0,1,5] [1000000000] (Nt a b) (qX 0 [0,1,5] [1000000000] (Nt a b)):=⟨fun g o h=>by
 unfold JP at h;simp only[ZC,Nt,oL];exact ZT trivial (ZA @Nt.eq_1 @oL.eq_1) h⟩
instance(c:Int)(a:List Int):CW (LI c a) (fun(r:List Int)=>OkM A1 169 [.sl 1000000000 0 a.length,.i c] [(1000000000,.arr 1 (a.map AV.i))] (.sl 4 0 r.length) ([(4,.arr 1 (r.map AV.i))])):=⟨fun r h=>by
 refine bw (lr:=[4]) cr afz rfl rfl ?_;unfold LI at h;simp only[ZC,Pb,V85];exact ZT ZJB (ZA @Nt.eq_1 (ZA @V85.eq_1 (ZA @yv.eq_1 @zD.eq_1))) h⟩
def Ul(a:aB)(b:Int)(v:Int):St:=⟨[(1,.i b),(2,.pt 2 0 0),(5,.i v)],[(2,.var (bv .o a))]⟩
instance(b:aB)(c:Int):CL (Js b c) xt [1,2,5] [2] (Ul b c) (qS (qX 0 [] [] (cz)) (qR V85 (fun r=>.i r))):=⟨fun g o h=>by
 unfold Js at h;simp only[ZC,Ul,xt];exact ZT trivial (ZA @Ul.eq_1 (ZA @cz.eq_1 (ZA @V85.eq_1 @xt.eq_1))) h⟩
instance(a:aB)(b:Int):CW (CR a b) (fun(r:Int)=>Ok A1 116 [(bv .o a),.i b] (.i r)):=⟨fun r h=>ZO m116 (CR.eq_1 _ _) ZJ (ZA @Ul.eq_1 (ZA @cz.eq_1 (ZA @SR.eq_1 (ZA @V85.eq_1 @A116.eq_1)))) h⟩
instance(a:Int)(b:List ByteArray)(c:List aw)(d:List af):CW (KX a b c d) (fun(r:List ByteArray×List af×List aw×List ByteArray×List aw×List af)=>OkM A1 165 [.agg [.sl 1000000000 0 b.length,.sl 1000000001 0 c.length,.sl 1000000002 0 d.length],.i a] [(1000000000,.arr 1 (b.map AV.z)),(1000000001,.arr 4 (c.map (au .u))),(1000000002,.arr 5 (d.map (ai .m)))] (.agg [.sl 7 0 r.1.length,.sl 1007 0 r.2.2.1.length,.sl 19 0 r.2.1.length]) ([(7,.arr 1 (r.1.map AV.z)),(19,.arr 5 (r.2.1.map (ai .m))),(1007,.arr 4 (r.2.2.1.map (au .u))),(1000000000,.arr 1 (r.2.2.2.1.map AV.z)),(1000000001,.arr 4 (r.2.2.2.2.1.map (au .u))),(1000000002,.arr 5 (r.2.2.2.2.2.map (ai .m)))])):=⟨fun r h=>by
 refine bw (lr:=[7,19,1007,1000000000,1000000001,1000000002]) cr aew rfl rfl ?_;unfold KX at h;simp only[ZC,Lh,fy];exact ZT ZJB @fy.eq_1 h⟩
def VQ(b:ae)(c:List Int)(a:ae)(v:Int×List Int):St:=⟨[(1,.lst .o 1 (c.map AV.i)),(2,.pt 2 0 0),(4,.pt 4 0 0),(5,.pt 5 0 0),(6,.i v.1)],[(2,.var (aI .o b)),(4,.var (.agg [.lst .u 1 [],.lst .u 4 [],.lst .u 5 [],.lst .u 5 [],.lst .u 1 []])),(5,.var (.agg [.sl 500000320 0 a.F.F.N.length,.sl 500000321 0 a.F.F.F.length,.sl 500000322 0 a.F.N.length,.sl 500000323 0 a.N.length,.sl 500000324 0 v.2.length])),(500000320,.arr 1 (a.F.F.N.map AV.z)),(500000321,.arr 4 (a.F.F.F.map (au .u))),(500000322,.arr 5 (a.F.N.map (ai .u))),(500000323,.arr 5 (a.N.map (ai .u))),(500000324,.arr 1 (v.2.map AV.i))]⟩
def PB(a:ae)(v:List Int):St:=⟨[(4,.pt 4 0 0),(5,.pt 5 0 0)],[(4,.var (.agg [.lst .u 1 [],.lst .u 4 [],.lst .u 5 [],.lst .u 5 [],.lst .u 1 []])),(5,.var (.agg [.sl 500000320 0 a.F.F.N.length,.sl 500000321 0 a.F.F.F.length,.sl 500000322 0 a.F.N.length,.sl 500000323 0 a.N.length,.sl 500000324 0 v.length])),(500000320,.arr 1 (a.F.F.N.map AV.z)),(500000321,.arr 4 (a.F.F.F.map (au .u))),(500000322,.arr 5 (a.F.N.map (ai .u))),(500000323,.arr 5 (a.N.map (ai .u))),(500000324,.arr 1 (v.map AV.i))]⟩
instance(c:ae)(d:List Int):CX (Ge c d) Fy [1,2,4,5,6] [2,4,5,500000320,500000321,500000322,500000323,500000324] (ae) (fun g=>(VQ c d g)) (fun g=>(qX 0 [4,5] [4,5,500000320,500000321,500000322,500000323,500000324] (PB g))):=⟨fun g a o h=>by
 unfold Ge at h;simp only[ZC,VQ,Fy];exact ZT ZJB (ZA @VQ.eq_1 (ZA @PB.eq_1 @Fy.eq_1)) h⟩
instance(a:ae)(b:List Int):CW (Nh a b) (fun(r:ae)=>Ok A1 80 [(aI .o a),.lst .o 1 (b.map AV.i)] (.agg [.lst .u 1 (r.F.F.N.map AV.z),.lst .u 4 (r.F.F.F.map (au .u)),.lst .u 5 (r.F.N.map (ai .u)),.lst .u 5 (r.N.map (ai .u)),.lst .u 1 (r.L.map AV.i)])):=⟨fun r h=>ZO m80 (Nh.eq_1 _ _) ZJ (ZA @VQ.eq_1 (ZA @PB.eq_1 (ZA @aan.eq_1 (ZA @V80.eq_1 @A80.eq_1)))) h⟩
def UW(a:ae)(v:Int×List Int):St:=⟨[(1,.pt 1 0 0),(3,.sl 3 0 v.2.length),(4,.i v.1)],[(1,.var (aI .o a)),(3,.arr 1 (v.2.map AV.i))]⟩
instance(c:ae):CL (GD c) DW [1,3,4] [1,3] (UW c) (qX 0 [3] [3] (qt)):=⟨fun a o h=>by
 unfold GD at h;simp only[ZC,UW,DW];exact ZT ZJB (ZA @UW.eq_1 (ZA @qt.eq_1 @DW.eq_1)) h⟩
instance(a:ae):CW (DI a) (fun(r:List Int)=>Ok A1 71 [(aI .o a)] (.lst .u 1 (r.map AV.i))):=⟨fun r h=>ZO m71 (DI.eq_1 _) ZJ (ZA @UW.eq_1 (ZA @qt.eq_1 (ZA @Yw.eq_1 (ZA @V91.eq_1 @A71.eq_1)))) h⟩
def S_f(a:aB)(b:Int)(v:Int×Int):St:=⟨[(1,.i b),(2,.pt 2 0 0),(5,.i v.1),(6,.i v.2)],[(2,.var (bv .o a))]⟩
def qr(v:Int):St:=⟨[(5,.i v)],[]⟩
instance(a:aB)(b:Int):CL (M_f a b) xU [1,2,5,6] [2] (S_f a b) (qX 0 [5] [] (qr)):=⟨fun g o h=>by
 unfold M_f at h;simp only[ZC,S_f,xU];exact ZT trivial (ZA @S_f.eq_1 (ZA @qr.eq_1 @xU.eq_1)) h⟩
instance(a:aB)(b:Int):CW (LJ a b) (fun(r:Int)=>Ok A1 200 [(bv .o a),.i b] (.i r)):=⟨fun r h=>ZO m200 (LJ.eq_1 _ _) ZJ (ZA @S_f.eq_1 (ZA @qr.eq_1 (ZA @KG.eq_1 (ZA @V85.eq_1 @A200.eq_1)))) h⟩
def VK(a:aB)(b:aj)(v:Int×Int):St:=⟨[(2,.pt 2 0 0),(3,.pt 3 0 0),(5,.i v.1),(6,.i v.2)],[(2,.var (bv .o a)),(3,.var (ay .o b))]⟩
instance(a:aB)(b:aj):CL (CP a b) xO [2,3,5,6] [2,3] (VK a b) (qX 0 [5] [] (qr)):=⟨fun d o h=>by
 unfold CP at h;simp only[ZC,VK,xO];exact ZT trivial (ZA @VK.eq_1 (ZA @qr.eq_1 @xO.eq_1)) h⟩
instance(a:aB)(b:aj):CW (yE a b) (fun(r:Int)=>Ok A1 166 [(bv .o a),(ay .o b)] (.i r)):=⟨fun r h=>ZO m166 (yE.eq_1 _ _) ZJ (ZA @VK.eq_1 (ZA @qr.eq_1 (ZA @PU.eq_1 (ZA @V85.eq_1 @A166.eq_1)))) h⟩
instance(a:ah)(b:aj):CW (Tj a b) (fun(r:List Int)=>Ok A1 179 [(aG .o a),(ay .o b)] (.lst .u 1 (r.map AV.i))):=⟨fun r h=>ZO m179 (Tj.eq_1 _ _) trivial (ZA @V85.eq_1 @A179.eq_1) h⟩
instance(a:ah)(b:aj):CW (RN a b) (fun(r:Int)=>Ok A1 126 [(aG .o a),(ay .o b)] (.i r)):=⟨fun r h=>ZO m126 (RN.eq_1 _ _) trivial (ZA @V85.eq_1 @A126.eq_1) h⟩
instance(c:ah)(j:Int)(k:Int):CW (Sh c j k) (fun(r:Bool)=>Ok A1 234 [(aG .o c),.i j,.i k] (.b r)):=⟨fun r h=>ZO m234 (Sh.eq_1 _ _ _) trivial (ZA @aga.eq_1 (ZA @jw.eq_1 @aga.eq_1)) h⟩
def XA(a:ah)(b:aj)(v:Int×Int):St:=⟨[(2,.pt 2 0 0),(3,.pt 3 0 0),(5,.i v.1),(6,.i v.2)],[(2,.var (aG .o a)),(3,.var (ay .o b))]⟩
instance(a:ah)(b:aj):CL (JU a b) xC [2,3,5,6] [2,3] (XA a b) (qX 0 [5] [] (qr)):=⟨fun d o h=>by
 unfold JU at h;simp only[ZC,XA,xC];exact ZT trivial (ZA @XA.eq_1 (ZA @qr.eq_1 @xC.eq_1)) h⟩
instance(a:ah)(b:aj):CW (JF a b) (fun(r:Int)=>Ok A1 271 [(aG .o a),(ay .o b)] (.i r)):=⟨fun r h=>ZO m271 (JF.eq_1 _ _) ZJ (ZA @XA.eq_1 (ZA @qr.eq_1 (ZA @Mm.eq_1 (ZA @V85.eq_1 @A271.eq_1)))) h⟩
instance(c:Int):CW (yg c) (fun(r:Int)=>Ok A1 272 [.i c] (.i r)):=⟨fun r h=>ZO m272 (yg.eq_1 _) trivial (ZA @V91.eq_1 @A272.eq_1) h⟩
def Vk(a:aj)(b:aj)(v:Int):St:=⟨[(4,.pt 4 0 0),(5,.pt 5 0 0),(9,.i v)],[(4,.var (ay .o a)),(5,.var (ay .o b))]⟩
def ST(a:aj)(b:aj)(v:Unit):St:=⟨[(4,.pt 4 0 0),(5,.pt 5 0 0)],[(4,.var (ay .o a)),(5,.var (ay .o b))]⟩
instance(a:aj)(b:aj):CL (Gl a b) xL [4,5,9] [4,5] (Vk a b) (qS (qX 0 [4,5] [4,5] (ST a b)) (qR jw (fun r=>.i r))):=⟨fun g o h=>by
 unfold Gl at h;simp only[ZC,Vk,xL];exact ZT trivial (ZA @Vk.eq_1 (ZA @ST.eq_1 (ZA @jw.eq_1 @xL.eq_1))) h⟩
instance(d:ah)(b:aj)(c:aj):CW (Im d b c) (fun(r:Int)=>Ok A1 267 [(aG .o d),(ay .o b),(ay .o c)] (.i r)):=⟨fun r h=>ZO m267 (Im.eq_1 _ _ _) ZJ (ZA @Vk.eq_1 (ZA @ST.eq_1 (ZA @Lq.eq_1 (ZA @jw.eq_1 @A267.eq_1)))) h⟩
def Co(a:aj)(c:List ByteArray)(d:List aw)(g:Int)(b:List aj)(v:Int):St:=⟨[(0,.pt 1000000000 0 0),(3,.pt 3 0 0),(4,.i v)],[(3,.var (ay .m a)),(1000000000,.var (.agg [.lst .o 1 (c.map AV.z),.lst .o 4 (d.map (au .o)),.i g,.sl 1000000001 0 b.length])),(1000000001,.arr 2 (b.map (ay .u)))]⟩
instance(a:aj)(b:List ByteArray)(c:List aw)(d:List aj):CX (adk a b c d) oD [0,3,4] [3,1000000000,1000000001] (Int) (fun g=>(Co a b c g d)) (fun g=>(qX 0 [0,3,4] [3,1000000000,1000000001] (Co a b c g d))):=⟨fun g k o h=>by
 unfold adk at h;simp only[ZC,Co,oD];exact ZT trivial (ZA @Co.eq_1 @oD.eq_1) h⟩
instance(b:aj)(j:List ByteArray)(k:List aw)(l:Int)(a:List aj):CW (agp b j k l a) (fun(r:List ByteArray×List aw×Int×List aj×List aj)=>OkM A1 257 [.pt 1000000000 0 0,(ay .m b)] [(1000000000,.var (.agg [.lst .o 1 (j.map AV.z),.lst .o 4 (k.map (au .o)),.i l,.sl 1000000001 0 a.length])),(1000000001,.arr 2 (a.map (ay .u)))] (.tup []) ([(49,.arr 2 (r.2.2.2.1.map (ay .m))),(1000000000,.var (.agg [.lst .o 1 (r.1.map AV.z),.lst .o 4 (r.2.1.map (au .o)),.i r.2.2.1,.sl 49 0 r.2.2.2.1.length])),(1000000001,.arr 2 (r.2.2.2.2.map (ay .u)))])):=⟨fun r h=>by
 refine bw (lr:=[49,1000000000,1000000001]) cr acu rfl rfl ?_;unfold agp at h;simp only[ZC,PN,dB];obtain⟨p,d1,h⟩:=ar h;try refine ZF trivial ?_
 refine ba (bP (bf (CX.w l) d1 ?_)) ?_
 ·exact ZK (ZA @Co.eq_1 @Co.eq_1)
 ·simp only[ZC,Co,yV];obtain⟨w1,g1,h⟩:=ar h;obtain⟨q,i1,h⟩:=bg h;have j1:sub (a.map (ay .u)) 0 (B3 p)=q.map (ay .u):=by rw[bz,i1]
  obtain⟨y1,k1,h⟩:=ar h;obtain⟨s,c,h⟩:=bg h;have l1:Row.arr 2 [(.agg [.i ((b).N),.lst .m 1 (((b).F).map AV.i)]:AV)]=Row.arr 2 (s.map (ay .m)):=by rw[<-c];rfl
  have w:s.length=1:=by rw[<-c];rfl
  obtain⟨z1,m1,h⟩:=ar h;have x:=bq m1;obtain⟨d,g,h⟩:=bg h;have p1:q.map (ay .m)++s.map (ay .m)=d.map (ay .m):=by rw[<-g,A4]
  have y:q.length+1=d.length:=by simp[<-c,<-g]<;>omega
  rw[y] at x;obtain⟨a2,q1,h⟩:=ar h;obtain⟨t,s1,h⟩:=bg h;have t1:sub (a.map (ay .u)) (B3 p) (a.length-(B3 p))=t.map (ay .u):=by rw[bz,s1]
  obtain⟨b2,u1,h⟩:=ar h;have a1:=bq u1;obtain⟨b1,v,h⟩:=bg h;have v1:d.map (ay .m)++t.map (ay .m)=b1.map (ay .m):=by rw[<-v,A4]
  have c1:d.length+t.length=b1.length:=by simp[<-c,<-g,<-v]<;>omega
  rw[c1] at a1;cases h;exact ZL (ZA (bq g1) (ZA j1 (ZA (bq k1) (ZA l1 (ZA w (ZA x (ZA p1 (ZA y (ZA (bq q1) (ZA t1 (ZA a1 (ZA v1 c1)))))))))))) (ZA @dB.eq_1 (ZA c.symm (ZA g.symm (ZA v.symm w))))⟩
def Cy(a:aj)(c:List ByteArray)(d:List aw)(g:Int)(b:List aj)(v:Int):St:=⟨[(0,.pt 1000000000 0 0),(3,.pt 3 0 0),(4,.i v)],[(3,.var (ay .m a)),(1000000000,.var (.agg [.lst .o 1 (c.map AV.z),.lst .o 4 (d.map (au .o)),.i g,.sl 1000000001 0 b.length])),(1000000001,.arr 2 (b.map (ay .m)))]⟩
instance(a:aj)(b:List ByteArray)(c:List aw)(d:List aj):CX (Io a b c d) oE [0,3,4] [3,1000000000,1000000001] (Int) (fun g=>(Cy a b c g d)) (fun g=>(qX 0 [0,3,4] [3,1000000000,1000000001] (Cy a b c g d))):=⟨fun g k o h=>by
 unfold Io at h;simp only[ZC,Cy,oE];exact ZT trivial (ZA @Cy.eq_1 @oE.eq_1) h⟩
instance(b:aj)(j:List ByteArray)(k:List aw)(l:Int)(a:List aj):CW (Nn b j k l a) (fun(r:List ByteArray×List aw×Int×List aj×List aj)=>OkM A1 257 [.pt 1000000000 0 0,(ay .m b)] [(1000000000,.var (.agg [.lst .o 1 (j.map AV.z),.lst .o 4 (k.map (au .o)),.i l,.sl 1000000001 0 a.length])),(1000000001,.arr 2 (a.map (ay .m)))] (.tup []) ([(49,.arr 2 (r.2.2.2.1.map (ay .m))),(1000000000,.var (.agg [.lst .o 1 (r.1.map AV.z),.lst .o 4 (r.2.1.map (au .o)),.i r.2.2.1,.sl 49 0 r.2.2.2.1.length])),(1000000001,.arr 2 (r.2.2.2.2.map (ay .m)))])):=⟨fun r h=>by
 refine bw (lr:=[49,1000000000,1000000001]) cr aba rfl rfl ?_;unfold Nn at h;simp only[ZC,KE,dB];obtain⟨p,c1,h⟩:=ar h;try refine ZF trivial ?_
 refine ba (bP (bf (CX.w l) c1 ?_)) ?_
 ·exact ZK (ZA @Cy.eq_1 @Cy.eq_1)
 ·simp only[ZC,Cy,Ao];obtain⟨v1,d1,h⟩:=ar h;obtain⟨q,g1,h⟩:=bg h;have i1:sub (a.map (ay .m)) 0 (B3 p)=q.map (ay .m):=by rw[bz,g1]
  obtain⟨w1,j1,h⟩:=ar h;obtain⟨s,c,h⟩:=bg h;have k1:Row.arr 2 [(.agg [.i ((b).N),.lst .m 1 (((b).F).map AV.i)]:AV)]=Row.arr 2 (s.map (ay .m)):=by rw[<-c];rfl
  have v:s.length=1:=by rw[<-c];rfl
  obtain⟨y1,l1,h⟩:=ar h;have w:=bq l1;obtain⟨d,g,h⟩:=bg h;have m1:q.map (ay .m)++s.map (ay .m)=d.map (ay .m):=by rw[<-g,A4]
  have x:q.length+1=d.length:=by simp[<-c,<-g]<;>omega
  rw[x] at w;obtain⟨z1,p1,h⟩:=ar h;obtain⟨t,q1,h⟩:=bg h;have s1:sub (a.map (ay .m)) (B3 p) (a.length-(B3 p))=t.map (ay .m):=by rw[bz,q1]
  obtain⟨a2,t1,h⟩:=ar h;have y:=bq t1;obtain⟨a1,u,h⟩:=bg h;have u1:d.map (ay .m)++t.map (ay .m)=a1.map (ay .m):=by rw[<-u,A4]
  have b1:d.length+t.length=a1.length:=by simp[<-c,<-g,<-u]<;>omega
  rw[b1] at y;cases h;exact ZL (ZA (bq d1) (ZA i1 (ZA (bq j1) (ZA k1 (ZA v (ZA w (ZA m1 (ZA x (ZA (bq p1) (ZA s1 (ZA y (ZA u1 b1)))))))))))) (ZA @dB.eq_1 (ZA c.symm (ZA g.symm (ZA u.symm v))))⟩
def S_o(b:Int)(c:List Int)(a:List Int)(d:Int)(v:Int×List ByteArray×List aw×Int×List aj):St:=⟨[(0,.pt 1000000000 0 0),(2,.sl 1000000003 0 a.length),(4,.pt 4 0 0),(6,.i d),(7,.i v.1)],[(4,.var (.agg [.i b,.lst .m 1 (c.map AV.i)])),(470000003,.arr 2 (v.2.2.2.2.map (ay .m))),(1000000000,.var (.agg [.lst .o 1 (v.2.1.map AV.z),.lst .o 4 (v.2.2.1.map (au .o)),.i v.2.2.2.1,.sl 470000003 0 v.2.2.2.2.length])),(1000000003,.arr 1 (a.map AV.i))]⟩
def VS(a:List Int)(v:List ByteArray×List aw×Int×List aj):St:=⟨[],[(470000003,.arr 2 (v.2.2.2.map (ay .m))),(1000000000,.var (.agg [.lst .o 1 (v.1.map AV.z),.lst .o 4 (v.2.1.map (au .o)),.i v.2.2.1,.sl 470000003 0 v.2.2.2.length])),(1000000003,.arr 1 (a.map AV.i))]⟩
def w_o(j:Int)(u:List ByteArray)(w:List aw)(x:Int)(p:List aj)(d:List Int)(c:List Int)(i1:Int->List ByteArray->List aw->Int->List aj->List Int->List Int->Option (List ByteArray×List aw×Int×List aj×List Int))(k:Int)(y1:∀(j:Int)(u:List ByteArray)(w:List aw)(x:Int)(p:List aj)(d:List Int)(c:List Int){r:List ByteArray×List aw×Int×List aj×List Int},i1 j u w x p d c=some r->OkM A1 249 [.pt 1000000000 0 0,.agg [.i j,.sl 1000000002 0 d.length],.sl 1000000003 0 c.length] [(1000000000,.var (.agg [.lst .o 1 (u.map AV.z),.lst .o 4 (w.map (au .o)),.i x,.sl 1000000001 0 p.length])),(1000000001,.arr 2 (p.map (ay .m))),(1000000002,.arr 1 (d.map AV.i)),(1000000003,.arr 1 (c.map AV.i))] (.tup []) ([(470000003,.arr 2 (r.2.2.2.1.map (ay .m))),(1000000000,.var (.agg [.lst .o 1 (r.1.map AV.z),.lst .o 4 (r.2.1.map (au .o)),.i r.2.2.1,.sl 470000003 0 r.2.2.2.1.length])),(1000000003,.arr 1 (r.2.2.2.2.map AV.i))]))(a:Int×List ByteArray×List aw×Int×List aj)(o:(Int×List ByteArray×List aw×Int×List aj)⊕(List ByteArray×List aw×Int×List aj))(h:M_o j d c i1 k a=some o):AWP (OkS A1) rf (qL [0,2,4,6,7] [4,470000003,1000000000,1000000003] (S_o j d c k) (qX 0 [] [470000003,1000000000,1000000003] (VS c)) o) (S_o j d c k a):=by
 have e:=ZA @S_o.eq_1 @VS.eq_1;unfold M_o at h;simp only[ZC,S_o,rf];obtain⟨z1,a2,h⟩:=ar h;try refine ZF trivial ?_
 refine ba (sh:=(fun v=>⟨[(0,.pt 1000000000 0 0),(2,.sl 1000000003 0 c.length),(4,.pt 4 0 0),(6,.i k),(7,.i a.1),(39,.b v)],[(4,.var (.agg [.i j,.lst .m 1 (d.map AV.i)])),(470000003,.arr 2 (a.2.2.2.2.map (ay .m))),(1000000000,.var (.agg [.lst .o 1 (a.2.1.map AV.z),.lst .o 4 (a.2.2.1.map (au .o)),.i a.2.2.2.1,.sl 470000003 0 a.2.2.2.2.length])),(1000000003,.arr 1 (c.map AV.i))]⟩)) (s:=z1) ?_ ?_
 ·replace h:=a2;obtain⟨y,h⟩|⟨y,h⟩:=aM h
  ·cases h;exact ZL y trivial
  ·cases h;exact ZL y trivial
 ·simp only[ZC,yB];obtain⟨g,h⟩|⟨g,h⟩:=aM h
  ·obtain⟨j1,b2,h⟩:=ar h;refine ZF g ?_;refine ZSG g (CW.w _ b2) ?_;obtain⟨c2,d2,h⟩:=ar h;try refine ZF g ?_
   refine ba (sh:=(fun v=>⟨[(0,.pt 1000000000 0 0),(2,.sl 1000000003 0 c.length),(4,.pt 4 0 0),(6,.i k),(7,.i a.1),(8,.i j1),(56,.b v)],[(4,.var (.agg [.i j,.lst .m 1 (d.map AV.i)])),(470000003,.arr 2 (a.2.2.2.2.map (ay .m))),(1000000000,.var (.agg [.lst .o 1 (a.2.1.map AV.z),.lst .o 4 (a.2.2.1.map (au .o)),.i a.2.2.2.1,.sl 470000003 0 a.2.2.2.2.length])),(1000000003,.arr 1 (c.map AV.i))]⟩)) (s:=c2) ?_ ?_
   ·replace h:=d2;obtain⟨a1,h⟩|⟨a1,h⟩:=aM h
    ·obtain⟨u2,g2,h⟩:=ar h;have f:=ZA g a1;refine ZF f ?_;refine ZSG f (CW.w _ g2) ?_;cases h;exact ZL f trivial
    ·cases h;exact ZL (ZA g a1) trivial
   ·simp only[ZC,yP];obtain⟨b1,h⟩|⟨b1,h⟩:=aM h
    ·obtain⟨k1,i2,h⟩:=ar h;have f:=ZA g b1;refine ZF f ?_;refine ZUG f (CW.w _ i2) ?_;obtain⟨c1,l,h⟩:=bg h;have j2:Row.arr 1 [(.i a.1:AV)]=Row.arr 1 (c1.map AV.i):=by rw[<-l];rfl
     have l1:c1.length=1:=by rw[<-l];rfl
     obtain⟨v2,k2,h⟩:=ar h;have m1:=bq k2;obtain⟨p1,q,h⟩:=bg h;have l2:k1.map AV.i++c1.map AV.i=p1.map AV.i:=by rw[<-q,A4]
     have q1:k1.length+1=p1.length:=by simp[<-l,<-q]<;>omega
     rw[q1] at m1;obtain⟨s1,m2,h⟩:=ar h;have f:=ZA f (ZA j2 (ZA l1 (ZA m1 (ZA l2 q1))));refine ZF f ?_;refine ZUG f (CW.w _ m2) ?_;obtain⟨d1,t,h⟩:=bg h;have p2:Row.arr 1 [(.i j1:AV)]=Row.arr 1 (d1.map AV.i):=by rw[<-t];rfl
     have t1:d1.length=1:=by rw[<-t];rfl
     obtain⟨w2,q2,h⟩:=ar h;have u1:=bq q2;obtain⟨v1,g1,h⟩:=bg h;have s2:s1.map AV.i++d1.map AV.i=v1.map AV.i:=by rw[<-g1,A4]
     have w1:s1.length+1=v1.length:=by simp[<-l,<-q,<-t,<-g1]<;>omega
     rw[w1] at u1;obtain⟨x2,t2,h⟩:=ar h;have f:=ZA f (ZA p2 (ZA t1 (ZA u1 (ZA s2 w1))));refine ZF f ?_;refine ZWG f (y1 _ _ _ _ _ _ _ t2) [470000003,1000000000,1000000003] [477300003] ?_;cases h;exact ZL f (ZA e (ZA l.symm (ZA q.symm (ZA t.symm (ZA g1.symm (ZA l1 t1))))))
    ·cases h;exact ZL (ZA g b1) e
  ·cases h;exact ZL g e
def aho(l:Int->List ByteArray->List aw->Int->List aj->List Int->List Int->Option (List ByteArray×List aw×Int×List aj×List Int))(q:∀(d:Int)(g:List ByteArray)(j:List aw)(k:Int)(a:List aj)(b:List Int)(c:List Int){r:List ByteArray×List aw×Int×List aj×List Int},l d g j k a b c=some r->OkM A1 249 [.pt 1000000000 0 0,.agg [.i d,.sl 1000000002 0 b.length],.sl 1000000003 0 c.length] [(1000000000,.var (.agg [.lst .o 1 (g.map AV.z),.lst .o 4 (j.map (au .o)),.i k,.sl 1000000001 0 a.length])),(1000000001,.arr 2 (a.map (ay .m))),(1000000002,.arr 1 (b.map AV.i)),(1000000003,.arr 1 (c.map AV.i))] (.tup []) ([(470000003,.arr 2 (r.2.2.2.1.map (ay .m))),(1000000000,.var (.agg [.lst .o 1 (r.1.map AV.z),.lst .o 4 (r.2.1.map (au .o)),.i r.2.2.1,.sl 470000003 0 r.2.2.2.1.length])),(1000000003,.arr 1 (r.2.2.2.2.map AV.i))]))(d:Int)(g:List ByteArray)(j:List aw)(k:Int)(a:List aj)(b:List Int)(c:List Int){r:List ByteArray×List aw×Int×List aj×List Int}(h:IV l d g j k a b c=some r):OkM A1 249 [.pt 1000000000 0 0,.agg [.i d,.sl 1000000002 0 b.length],.sl 1000000003 0 c.length] [(1000000000,.var (.agg [.lst .o 1 (g.map AV.z),.lst .o 4 (j.map (au .o)),.i k,.sl 1000000001 0 a.length])),(1000000001,.arr 2 (a.map (ay .m))),(1000000002,.arr 1 (b.map AV.i)),(1000000003,.arr 1 (c.map AV.i))] (.tup []) ([(470000003,.arr 2 (r.2.2.2.1.map (ay .m))),(1000000000,.var (.agg [.lst .o 1 (r.1.map AV.z),.lst .o 4 (r.2.1.map (au .o)),.i r.2.2.1,.sl 470000003 0 r.2.2.2.1.length])),(1000000003,.arr 1 (r.2.2.2.2.map AV.i))]):=by
 refine bw (lr:=[470000003,1000000000,1000000003]) cr agc rfl rfl ?_;unfold IV at h;simp only[ZC,LF,dB];obtain⟨y,s,h⟩:=ar h;obtain⟨t,u,h⟩:=ar h;obtain⟨p,h⟩|⟨p,h⟩:=aM h
 ·obtain⟨a1,x,h⟩:=ar h;have f:=ZA (bq s) (ZA u p);refine ZF f ?_;refine ZWG f (CW.w _ x) [49,1000000000,1000000001] [2400049] ?_;cases h;exact ZL f @dB.eq_1
 ·obtain⟨b1,v,h⟩:=ar h;try refine ZF (ZA (bq s) (ZA u p)) ?_
  first|refine gt (bP (bf (w_o d g j k a b c l t q) v ?_)) (fun τ w=>?_)|refine jC (bf (w_o d g j k a b c l t q) v ?_) (fun τ w=>?_)
  ·exact ZK (ZA @S_o.eq_1 @VS.eq_1)
  ·cases h;refine ox w (by decide) ?_ rfl;exact ZK (ZA @dB.eq_1 @VS.eq_1)
theorem w_bu:∀(n:Nat)(d:Int)(g:List ByteArray)(j:List aw)(k:Int)(a:List aj)(b:List Int)(c:List Int){r:List ByteArray×List aw×Int×List aj×List Int}(_:Bv n d g j k a b c=some r),OkM A1 249 [.pt 1000000000 0 0,.agg [.i d,.sl 1000000002 0 b.length],.sl 1000000003 0 c.length] [(1000000000,.var (.agg [.lst .o 1 (g.map AV.z),.lst .o 4 (j.map (au .o)),.i k,.sl 1000000001 0 a.length])),(1000000001,.arr 2 (a.map (ay .m))),(1000000002,.arr 1 (b.map AV.i)),(1000000003,.arr 1 (c.map AV.i))] ((fun(r:List ByteArray×List aw×Int×List aj×List Int)=>.tup []) r) ((fun(r:List ByteArray×List aw×Int×List aj×List Int)=>[(470000003,.arr 2 (r.2.2.2.1.map (ay .m))),(1000000000,.var (.agg [.lst .o 1 (r.1.map AV.z),.lst .o 4 (r.2.1.map (au .o)),.i r.2.2.1,.sl 470000003 0 r.2.2.2.1.length])),(1000000003,.arr 1 (r.2.2.2.2.map AV.i))]) r)
 |0,d,g,j,k,a,b,c,_,h=>by cases h
 |n+1,d,g,j,k,a,b,c,_,h=>aho (Bv n) (w_bu n) d g j k a b c h
def SW(b:Int)(a:List Int)(c:Int)(v:Int×List ByteArray×List aw×Int×List aj):St:=⟨[(0,.pt 1000000000 0 0),(2,.sl 1000000001 0 a.length),(4,.pt 4 0 0),(6,.i c),(7,.i v.1)],[(4,.var (.agg [.i b,.lst .m 1 []])),(470000003,.arr 2 (v.2.2.2.2.map (ay .m))),(1000000000,.var (.agg [.lst .o 1 (v.2.1.map AV.z),.lst .o 4 (v.2.2.1.map (au .o)),.i v.2.2.2.1,.sl 470000003 0 v.2.2.2.2.length])),(1000000001,.arr 1 (a.map AV.i))]⟩
def FP(a:List Int)(v:List ByteArray×List aw×Int×List aj):St:=⟨[],[(470000003,.arr 2 (v.2.2.2.map (ay .m))),(1000000000,.var (.agg [.lst .o 1 (v.1.map AV.z),.lst .o 4 (v.2.1.map (au .o)),.i v.2.2.1,.sl 470000003 0 v.2.2.2.length])),(1000000001,.arr 1 (a.map AV.i))]⟩
instance(g:Int)(d:List Int)(j:Int):CL (acn g d j) rX [0,2,4,6,7] [4,470000003,1000000000,1000000001] (SW g d j) (qX 0 [] [470000003,1000000000,1000000001] (FP d)):=⟨fun a o h=>by
 have e:=ZA @SW.eq_1 @FP.eq_1;unfold acn at h;simp only[ZC,SW,rX];obtain⟨q1,s1,h⟩:=ar h;try refine ZF trivial ?_
 refine ba (sh:=(fun v=>⟨[(0,.pt 1000000000 0 0),(2,.sl 1000000001 0 d.length),(4,.pt 4 0 0),(6,.i j),(7,.i a.1),(39,.b v)],[(4,.var (.agg [.i g,.lst .m 1 []])),(470000003,.arr 2 (a.2.2.2.2.map (ay .m))),(1000000000,.var (.agg [.lst .o 1 (a.2.1.map AV.z),.lst .o 4 (a.2.2.1.map (au .o)),.i a.2.2.2.1,.sl 470000003 0 a.2.2.2.2.length])),(1000000001,.arr 1 (d.map AV.i))]⟩)) (s:=q1) ?_ ?_
 ·replace h:=s1;obtain⟨q,h⟩|⟨q,h⟩:=aM h
  ·cases h;exact ZL q trivial
  ·cases h;exact ZL q trivial
 ·simp only[ZC,xW];obtain⟨c,h⟩|⟨c,h⟩:=aM h
  ·obtain⟨a1,t1,h⟩:=ar h;refine ZF c ?_;refine ZSG c (CW.w _ t1) ?_;obtain⟨u1,v1,h⟩:=ar h;try refine ZF c ?_
   refine ba (sh:=(fun v=>⟨[(0,.pt 1000000000 0 0),(2,.sl 1000000001 0 d.length),(4,.pt 4 0 0),(6,.i j),(7,.i a.1),(8,.i a1),(56,.b v)],[(4,.var (.agg [.i g,.lst .m 1 []])),(470000003,.arr 2 (a.2.2.2.2.map (ay .m))),(1000000000,.var (.agg [.lst .o 1 (a.2.1.map AV.z),.lst .o 4 (a.2.2.1.map (au .o)),.i a.2.2.2.1,.sl 470000003 0 a.2.2.2.2.length])),(1000000001,.arr 1 (d.map AV.i))]⟩)) (s:=u1) ?_ ?_
   ·replace h:=v1;obtain⟨t,h⟩|⟨t,h⟩:=aM h
    ·obtain⟨k2,w1,h⟩:=ar h;have f:=ZA c t;refine ZF f ?_;refine ZSG f (CW.w _ w1) ?_;cases h;exact ZL f trivial
    ·cases h;exact ZL (ZA c t) trivial
   ·simp only[ZC,yF];obtain⟨u,h⟩|⟨u,h⟩:=aM h
    ·obtain⟨b1,y1,h⟩:=ar h;have f:=ZA c u;refine ZF f ?_;refine ZUG f (CW.w _ y1) ?_;obtain⟨w,k,h⟩:=bg h;have z1:Row.arr 1 [(.i a.1:AV)]=Row.arr 1 (w.map AV.i):=by rw[<-k];rfl
     have c1:w.length=1:=by rw[<-k];rfl
     obtain⟨l2,a2,h⟩:=ar h;have d1:=bq a2;obtain⟨g1,l,h⟩:=bg h;have b2:b1.map AV.i++w.map AV.i=g1.map AV.i:=by rw[<-l,A4]
     have i1:b1.length+1=g1.length:=by simp[<-k,<-l]<;>omega
     rw[i1] at d1;obtain⟨j1,c2,h⟩:=ar h;have f:=ZA f (ZA z1 (ZA c1 (ZA d1 (ZA b2 i1))));refine ZF f ?_;refine ZUG f (CW.w _ c2) ?_;obtain⟨x,p,h⟩:=bg h;have d2:Row.arr 1 [(.i a1:AV)]=Row.arr 1 (x.map AV.i):=by rw[<-p];rfl
     have k1:x.length=1:=by rw[<-p];rfl
     obtain⟨m2,g2,h⟩:=ar h;have l1:=bq g2;obtain⟨m1,y,h⟩:=bg h;have i2:j1.map AV.i++x.map AV.i=m1.map AV.i:=by rw[<-y,A4]
     have p1:j1.length+1=m1.length:=by simp[<-k,<-l,<-p,<-y]<;>omega
     rw[p1] at l1;obtain⟨p2,j2,h⟩:=ar h;have f:=ZA f (ZA d2 (ZA k1 (ZA l1 (ZA i2 p1))));refine ZF f ?_;refine ZWG f (w_bu N0 _ _ _ _ _ _ _ j2) [470000003,1000000000,1000000003] [477300003] ?_;cases h;exact ZL f (ZA e (ZA k.symm (ZA l.symm (ZA p.symm (ZA y.symm (ZA c1 k1))))))
    ·cases h;exact ZL (ZA c u) e
  ·cases h;exact ZL c e⟩
instance(b:Int)(d:List ByteArray)(g:List aw)(j:Int)(a:List Int):CW (TQ b d g j a) (fun(r:List ByteArray×List aw×Int×List aj×List Int)=>OkM A1 249 [.pt 1000000000 0 0,.agg [.i b,.lst .u 1 []],.sl 1000000001 0 a.length] [(1000000000,.var (.agg [.lst .o 1 (d.map AV.z),.lst .o 4 (g.map (au .o)),.i j,.lst .u 2 []])),(1000000001,.arr 1 (a.map AV.i))] (.tup []) ([(470000003,.arr 2 (r.2.2.2.1.map (ay .m))),(1000000000,.var (.agg [.lst .o 1 (r.1.map AV.z),.lst .o 4 (r.2.1.map (au .o)),.i r.2.2.1,.sl 470000003 0 r.2.2.2.1.length])),(1000000001,.arr 1 (r.2.2.2.2.map AV.i))])):=⟨fun r h=>by
 refine bw (lr:=[470000003,1000000000,1000000001]) cr abx rfl rfl ?_;unfold TQ at h;simp only[ZC,OM,dB];obtain⟨v,k,h⟩:=ar h;obtain⟨l,p,h⟩:=ar h;obtain⟨c,h⟩|⟨c,h⟩:=aM h
 ·obtain⟨w,t,h⟩:=ar h;have f:=ZA (bq k) (ZA p c);refine ZF f ?_;refine ZWG f (CW.w _ t) [49,1000000000,1000000001] [2400049] ?_;cases h;exact ZL f @dB.eq_1
 ·obtain⟨x,q,h⟩:=ar h;try refine ZF (ZA (bq k) (ZA p c)) ?_
  first|refine gt (bP (bf CL.w q ?_)) (fun τ s=>?_)|refine jC (bf CL.w q ?_) (fun τ s=>?_)
  ·exact ZK (ZA @SW.eq_1 @FP.eq_1)
  ·cases h;refine ox s (by decide) ?_ rfl;exact ZK (ZA @dB.eq_1 @FP.eq_1)⟩
instance(c:ah)(d:Int)(k:Int):CW (GL c d k) (fun(r:Bool×List aj)=>OkM A1 235 [(aG .o c),.i d,.i k] [] (.tup [.sl 6 0 r.2.length,.b r.1]) ([(6,.arr 2 (r.2.map (ay .m)))])):=⟨fun r h=>by
 refine bw (lr:=[6]) cr aey rfl rfl ?_;unfold GL at h;simp only[ZC,RQ,gv];obtain⟨l,a,h⟩:=bg h;have p:Row.arr 1 [(.i d:AV)]=Row.arr 1 (l.map AV.i):=by rw[<-a];rfl
 have g:l.length=1:=by rw[<-a];rfl
 obtain⟨t,q,h⟩:=ar h;have f:=ZA p g;refine ZF f ?_;refine ZWG f (CW.w _ q) [470000003,1000000000,1000000001] [471900003] ?_;obtain⟨j,h⟩|⟨j,h⟩:=aM h
 ·cases h;exact ZL (ZA f j) (ZA @gv.eq_1 (ZA a.symm g))
 ·obtain⟨u,s,h⟩:=ar h;cases h;exact ZL (ZA f (ZA j (bq s))) (ZA @gv.eq_1 (ZA a.symm g))⟩
instance(c:ah)(d:Int)(g:Int):CW (PE c d g) (fun(r:Bool×List aj)=>OkM A1 212 [(aG .o c),.i d,.i g] [] (.tup [.sl 6 0 r.2.length,.b r.1]) ([(6,.arr 2 (r.2.map (ay .m)))])):=⟨fun r h=>by
 refine bw (lr:=[6]) cr aeb rfl rfl ?_;unfold PE at h;simp only[ZC,Qi,gv];obtain⟨l,j,h⟩:=ar h;refine ZF trivial ?_;refine ZSG trivial (CW.w _ j) ?_;obtain⟨a,h⟩|⟨a,h⟩:=aM h
 ·cases h;exact ZL a @gv.eq_1
 ·obtain⟨p,k,h⟩:=ar h;refine ZF a ?_;refine ZWG a (CW.w _ k) [6] [1800006] ?_;cases h;exact ZL a @gv.eq_1⟩
def S_e(a:Int)(b:Int)(v:Int×List Int):St:=⟨[(0,.i a),(1,.i b),(5,.sl 5 0 v.2.length),(6,.i v.1)],[(5,.arr 1 (v.2.map AV.i))]⟩
def tZ(v:List Int):St:=⟨[(5,.sl 5 0 v.length)],[(5,.arr 1 (v.map AV.i))]⟩
instance(d:Int)(g:Int):CL (M_e d g) wB [0,1,5,6] [5] (S_e d g) (qX 0 [5] [5] (tZ)):=⟨fun b o h=>by
 unfold M_e at h;simp only[ZC,S_e,wB];exact ZT ZJB (ZA @S_e.eq_1 (ZA @tZ.eq_1 @wB.eq_1)) h⟩
instance(a:Int)(b:Int):CW (NA a b) (fun(r:List Int)=>Ok A1 213 [.i a,.i b] (.lst .u 1 (r.map AV.i))):=⟨fun r h=>ZO m213 (NA.eq_1 _ _) ZJ (ZA @S_e.eq_1 (ZA @tZ.eq_1 (ZA @ME.eq_1 (ZA @V85.eq_1 @A213.eq_1)))) h⟩
def Wq(a:ae)(c:af)(d:Bool×List aj)(v:Int):St:=⟨[(2,.pt 2 0 0),(3,.pt 3 0 0),(4,.pt 4 0 0),(7,.sl 7 0 d.2.length),(8,.b d.1),(9,.i v)],[(2,.var (aI .o a)),(3,.var (ai .o c)),(4,.var (.agg [.i 0,.i 0,.lst .u 1 [],.i 0,.i 0])),(7,.arr 2 (d.2.map (ay .m)))]⟩
def EO(v:Unit):St:=⟨[(4,.pt 4 0 0)],[(4,.var (.agg [.i 0,.i 0,.lst .u 1 [],.i 0,.i 0]))]⟩
instance(a:ae)(c:af)(d:Bool×List aj):CL (Gz a c d) wA [2,3,4,7,8,9] [2,3,4,7] (Wq a c d) (qS (qX 0 [4] [4] (EO)) (qR jx (fun r=>.tup [.agg [.i r.1.Id,.i r.1.F.N,.lst .u 1 (r.1.F.F.map AV.i),.i r.1.N.N,.i r.1.N.F],.b r.2]))):=⟨fun g o h=>by
 unfold Gz at h;simp only[ZC,Wq,wA];exact ZT ZJ (ZA @Wq.eq_1 (ZA @EO.eq_1 (ZA @jx.eq_1 (ZA @wA.eq_1 @QX.eq_1)))) h⟩
instance(a:ae)(c:af):CW (Kw a c) (fun(r:af×Bool)=>Ok A1 173 [(aI .o a),(ai .o c)] (.tup [.agg [.i r.1.Id,.i r.1.F.N,.lst .u 1 (r.1.F.F.map AV.i),.i r.1.N.N,.i r.1.N.F],.b r.2])):=⟨fun r h=>by
 refine bJ cr m173 rfl ?_;unfold Kw at h;simp only[ZC,A173,jx,dg];obtain⟨j,k,h⟩:=ar h;try refine ZF trivial ?_
 refine ba (sh:=(fun v=>⟨[(2,.pt 2 0 0),(3,.pt 3 0 0),(4,.pt 4 0 0),(6,.pt 6 0 0),(31,.b v)],[(2,.var (aI .o a)),(3,.var (ai .o c)),(4,.var (.agg [.i 0,.i 0,.lst .u 1 [],.i 0,.i 0])),(6,.var (aG .o a.F.F))]⟩)) (s:=j) ?_ ?_
 ·replace h:=k;obtain⟨c1,l,h⟩:=ar h;refine ZF trivial ?_;refine ZSG trivial (CW.w _ l) ?_;obtain⟨g,h⟩|⟨g,h⟩:=aM h
  ·obtain⟨d1,m,h⟩:=ar h;refine ZF g ?_;refine ZSG g (CW.w _ m) ?_;obtain⟨g1,p,h⟩:=ar h;refine ZF g ?_;refine ZSG g (CW.w _ p) ?_;cases h;exact ZL g trivial
  ·cases h;exact ZL g trivial
 ·simp only[ZC,Ng];obtain⟨d,h⟩|⟨d,h⟩:=aM h
  ·obtain⟨i1,q,h⟩:=ar h;refine ZF d ?_;refine ZUG d (CW.w _ q) ?_;cases h;exact ZL d @jx.eq_1
  ·obtain⟨j1,t,h⟩:=ar h;refine ZF d ?_;refine ZSG d (CW.w _ t) ?_;obtain⟨w,x,h⟩:=ar h;refine ZF d ?_;refine ZWG d (CW.w _ x) [6] [4400006] ?_;obtain⟨y,a1,h⟩:=ar h;try refine ZF d ?_
   refine gw (o:=y) (gG zd (bf CL.w a1 ?_)) (fun k1 hv=>?_) (fun l1 hv e τ hne hq=>?_)
   ·exact ZK (ZA @Wq.eq_1 @EO.eq_1)
   ·subst hv;simp only[] at h;simp only[ZC,EO,MU];cases h;exact ZL d @jx.eq_1
   ·subst hv;simp only[] at h;obtain⟨rfl,b1⟩:=hq;cases h;exact b1⟩
def S_x(c:Int)(d:Int)(g:Int)(j:Int)(k:List ByteArray)(l:List aw)(m:List af)(b:List Int)(a:aB)(v:Int):St:=⟨[(3,.pt 3 0 0),(4,.pt 4 0 0),(5,.pt 5 0 0),(6,.i v)],[(3,.var (.agg [.i c,.i d,.sl 1000000003 0 b.length,.i g,.i j])),(4,.var (.agg [.lst .u 1 [],.lst .u 4 [],.lst .u 5 []])),(5,.var (.agg [.sl 8 0 a.F.N.length,.sl 1008 0 a.F.F.length,.sl 2008 0 a.N.length])),(8,.arr 1 (a.F.N.map AV.z)),(1008,.arr 4 (a.F.F.map (au .u))),(2008,.arr 5 (a.N.map (ai .u))),(1000000000,.arr 1 (k.map AV.z)),(1000000001,.arr 4 (l.map (au .u))),(1000000002,.arr 5 (m.map (ai .u))),(1000000003,.arr 1 (b.map AV.i))]⟩
theorem w_x(a:Int)(d:Int)(g:Int)(i:Int)(j:List ByteArray)(k:List aw)(l:List af)(m:List Int)(b:aB)(q:Int)(o:Int⊕Int)(h:M_x a b q=some o):AWP (OkS A1) wt (qL [3,4,5,6] [3,4,5,8,1008,2008,1000000000,1000000001,1000000002,1000000003] (S_x a d g i j k l m b) (qX 0 [3,4,5,6] [3,4,5,8,1008,2008,1000000000,1000000001,1000000002,1000000003] (S_x a d g i j k l m b)) o) (S_x a d g i j k l m b q):=by
 have e:=ZA @S_x.eq_1 @S_x.eq_1;unfold M_x at h;simp only[ZC,S_x,wt];obtain⟨c,h⟩|⟨c,h⟩:=aM h
 ·obtain⟨u,s,h⟩:=ar h;obtain⟨v,t,h⟩:=ar h;obtain⟨p,h⟩|⟨p,h⟩:=aM h
  ·cases h;exact ZL (ZA c (ZA (bq s) (ZA t p))) e
  ·cases h;exact ZL (ZA c (ZA (bq s) (ZA t p))) e
 ·cases h;exact ZL c e
instance(t:Int)(v:Int)(w:Int)(x:Int)(k:List ByteArray)(l:List aw)(p:List af)(q:List Int):CW (NL t v w x k l p q) (fun(r:List ByteArray×List af×List aw×List ByteArray×List aw×List af×List Int)=>OkM A1 90 [.agg [.sl 1000000000 0 k.length,.sl 1000000001 0 l.length,.sl 1000000002 0 p.length],.agg [.i t,.i v,.sl 1000000003 0 q.length,.i w,.i x]] [(1000000000,.arr 1 (k.map AV.z)),(1000000001,.arr 4 (l.map (au .u))),(1000000002,.arr 5 (p.map (ai .u))),(1000000003,.arr 1 (q.map AV.i))] (.agg [.sl 8 0 r.1.length,.sl 1008 0 r.2.2.1.length,.sl 41 0 r.2.1.length]) ([(8,.arr 1 (r.1.map AV.z)),(41,.arr 5 (r.2.1.map (ai .m))),(1008,.arr 4 (r.2.2.1.map (au .u))),(1000000000,.arr 1 (r.2.2.2.1.map AV.z)),(1000000001,.arr 4 (r.2.2.2.2.1.map (au .u))),(1000000002,.arr 5 (r.2.2.2.2.2.1.map (ai .u))),(1000000003,.arr 1 (r.2.2.2.2.2.2.map AV.i))])):=⟨fun r h=>by
 refine bw (lr:=[8,41,1008,1000000000,1000000001,1000000002,1000000003]) cr aim rfl rfl ?_;unfold NL at h;simp only[ZC,YN,fy];obtain⟨s,l1,h⟩:=ar h;refine ZF trivial ?_;refine ZUG trivial (CW.w _ l1) ?_;obtain⟨y,m1,h⟩:=ar h;try refine ZF trivial ?_
 refine ba (bP (bf (w_x t v w x k l p q s) m1 ?_)) ?_
 ·exact ZK (ZA @S_x.eq_1 @S_x.eq_1)
 ·simp only[ZC,S_x,Ep];obtain⟨i2,p1,h⟩:=ar h;obtain⟨b,q1,h⟩:=bg h;have s1:sub (s.N.map (ai .u)) 0 (B3 y)=b.map (ai .u):=by rw[bz,q1]
  obtain⟨j2,t1,h⟩:=ar h;obtain⟨c,u1,h⟩:=ar h;have f:=ZA (bq p1) (ZA s1 (bq t1));refine ZF f ?_;refine ZUG f (CW.w _ u1) ?_;obtain⟨d,a,h⟩:=bg h;have v1:Row.arr 5 [(.agg [.i c.Id,.i c.F.N,.lst .u 1 (c.F.F.map AV.i),.i c.N.N,.i c.N.F]:AV)]=Row.arr 5 (d.map (ai .u)):=by rw[<-a];rfl
  have c1:d.length=1:=by rw[<-a];rfl
  obtain⟨k2,w1,h⟩:=ar h;have d1:=bq w1;obtain⟨g,j,h⟩:=bg h;have y1:b.map (ai .m)++d.map (ai .m)=g.map (ai .m):=by rw[<-j,A4]
  have g1:b.length+1=g.length:=by simp[<-a,<-j]<;>omega
  rw[g1] at d1;obtain⟨l2,z1,h⟩:=ar h;obtain⟨a1,a2,h⟩:=bg h;have b2:sub (s.N.map (ai .u)) (B3 y) (s.N.length-(B3 y))=a1.map (ai .u):=by rw[bz,a2]
  have c2:sub (b.map (ai .m)++d.map (ai .u)) 0 g.length=b.map (ai .m)++d.map (ai .u):=if_pos ⟨rfl,by simp[<-a,<-j]⟩;obtain⟨m2,d2,h⟩:=ar h;have i1:=bq d2;obtain⟨j1,b1,h⟩:=bg h;have g2:g.map (ai .m)++a1.map (ai .m)=j1.map (ai .m):=by rw[<-b1,A4]
  have k1:g.length+a1.length=j1.length:=by simp[<-a,<-j,<-b1]<;>omega
  rw[k1] at i1;cases h;exact ZL (ZA f (ZA v1 (ZA c1 (ZA d1 (ZA y1 (ZA g1 (ZA (bq z1) (ZA b2 (ZA c2 (ZA i1 (ZA g2 k1))))))))))) (ZA @fy.eq_1 (ZA a.symm (ZA j.symm (ZA b1.symm c1))))⟩
instance(l:Int)(a:List ByteArray)(c:List aw)(d:List af)(g:List af)(j:List Int):CW (SA l a c d g j) (fun(r:Bool×List ByteArray×List aw×List af×List af×List Int×List ByteArray×List aw×List af×List af×List Int)=>OkM A1 117 [.agg [.sl 1000000000 0 a.length,.sl 1000000001 0 c.length,.sl 1000000002 0 d.length,.sl 1000000003 0 g.length,.sl 1000000004 0 j.length],.i l] [(1000000000,.arr 1 (a.map AV.z)),(1000000001,.arr 4 (c.map (au .u))),(1000000002,.arr 5 (d.map (ai .m))),(1000000003,.arr 5 (g.map (ai .u))),(1000000004,.arr 1 (j.map AV.i))] (.tup [.agg [.sl 500000256 0 r.2.1.length,.sl 500000257 0 r.2.2.1.length,.sl 500000258 0 r.2.2.2.1.length,.sl 500000259 0 r.2.2.2.2.1.length,.sl 500000260 0 r.2.2.2.2.2.1.length],.b r.1]) ([(500000256,.arr 1 (r.2.1.map AV.z)),(500000257,.arr 4 (r.2.2.1.map (au .u))),(500000258,.arr 5 (r.2.2.2.1.map (ai .m))),(500000259,.arr 5 (r.2.2.2.2.1.map (ai .u))),(500000260,.arr 1 (r.2.2.2.2.2.1.map AV.i)),(1000000000,.arr 1 (r.2.2.2.2.2.2.1.map AV.z)),(1000000001,.arr 4 (r.2.2.2.2.2.2.2.1.map (au .u))),(1000000002,.arr 5 (r.2.2.2.2.2.2.2.2.1.map (ai .m))),(1000000003,.arr 5 (r.2.2.2.2.2.2.2.2.2.1.map (ai .u))),(1000000004,.arr 1 (r.2.2.2.2.2.2.2.2.2.2.map AV.i))])):=⟨fun r h=>by
 refine bw (lr:=[500000256,500000257,500000258,500000259,500000260,1000000000,1000000001,1000000002,1000000003,1000000004]) cr ads rfl rfl ?_;unfold SA at h;simp only[ZC,QZ,jx];obtain⟨w,p,h⟩:=ar h;obtain⟨x,q,h⟩:=ar h;obtain⟨y,s,h⟩:=ar h;have f:=ZA (bq p) q;refine ZF f ?_;refine ZUG f (CW.w _ s) ?_;obtain⟨a1,t,h⟩:=ar h;refine ZF f ?_;refine ZUG f (CW.w _ t) ?_;obtain⟨k,h⟩|⟨k,h⟩:=aM h
 ·obtain⟨b1,v,h⟩:=ar h;have f:=ZA f k;refine ZF f ?_;refine ZWG f (CW.w _ v) [8,41,1008,1000000000,1000000001,1000000002,1000000003] [2600008,2600041,2601008] ?_;cases h;exact ZL f @jx.eq_1
 ·cases h;exact ZL (ZA f k) @jx.eq_1⟩
def S_l(a:List ByteArray)(b:List aw)(c:List af)(d:List af)(g:List Int)(j:List Int)(v:Int×List Int×List ByteArray×List aw×List af×List af×List Int):St:=⟨[(1,.pt 1 0 0),(2,.pt 2 0 0),(4,.pt 4 0 0),(5,.sl 5 0 v.2.1.length),(6,.sl 6 0 j.length),(7,.i v.1)],[(1,.var (.agg [.sl 1000000000 0 a.length,.sl 1000000001 0 b.length,.sl 1000000002 0 c.length,.sl 1000000003 0 d.length,.sl 1000000004 0 g.length])),(2,.var (.agg [.lst .u 1 [],.lst .u 4 [],.lst .u 5 [],.lst .u 5 [],.lst .u 1 []])),(4,.var (.agg [.sl 500000256 0 v.2.2.1.length,.sl 500000257 0 v.2.2.2.1.length,.sl 500000258 0 v.2.2.2.2.1.length,.sl 500000259 0 v.2.2.2.2.2.1.length,.sl 500000260 0 v.2.2.2.2.2.2.length])),(5,.arr 1 (v.2.1.map AV.i)),(6,.arr 1 (j.map AV.i)),(500000256,.arr 1 (v.2.2.1.map AV.z)),(500000257,.arr 4 (v.2.2.2.1.map (au .u))),(500000258,.arr 5 (v.2.2.2.2.1.map (ai .m))),(500000259,.arr 5 (v.2.2.2.2.2.1.map (ai .u))),(500000260,.arr 1 (v.2.2.2.2.2.2.map AV.i)),(1000000000,.arr 1 (a.map AV.z)),(1000000001,.arr 4 (b.map (au .u))),(1000000002,.arr 5 (c.map (ai .m))),(1000000003,.arr 5 (d.map (ai .u))),(1000000004,.arr 1 (g.map AV.i))]⟩
def WL(a:List ByteArray)(b:List aw)(c:List af)(d:List af)(g:List Int)(v:List Int×List ByteArray×List aw×List af×List af×List Int):St:=⟨[(2,.pt 2 0 0),(4,.pt 4 0 0),(5,.sl 5 0 v.1.length)],[(2,.var (.agg [.lst .u 1 [],.lst .u 4 [],.lst .u 5 [],.lst .u 5 [],.lst .u 1 []])),(4,.var (.agg [.sl 500000256 0 v.2.1.length,.sl 500000257 0 v.2.2.1.length,.sl 500000258 0 v.2.2.2.1.length,.sl 500000259 0 v.2.2.2.2.1.length,.sl 500000260 0 v.2.2.2.2.2.length])),(5,.arr 1 (v.1.map AV.i)),(500000256,.arr 1 (v.2.1.map AV.z)),(500000257,.arr 4 (v.2.2.1.map (au .u))),(500000258,.arr 5 (v.2.2.2.1.map (ai .m))),(500000259,.arr 5 (v.2.2.2.2.1.map (ai .u))),(500000260,.arr 1 (v.2.2.2.2.2.map AV.i)),(1000000000,.arr 1 (a.map AV.z)),(1000000001,.arr 4 (b.map (au .u))),(1000000002,.arr 5 (c.map (ai .m))),(1000000003,.arr 5 (d.map (ai .u))),(1000000004,.arr 1 (g.map AV.i))]⟩
theorem w_l(d:List ByteArray)(g:List aw)(j:List af)(a:List af)(k:List Int)(l:List Int)(b:Int×List Int×List ByteArray×List aw×List af×List af×List Int)(o:(Int×List Int×List ByteArray×List aw×List af×List af×List Int)⊕(List Int×List ByteArray×List aw×List af×List af×List Int))(h:M_l a l b=some o):AWP (OkS A1) tI (qL [1,2,4,5,6,7] [1,2,4,5,6,500000256,500000257,500000258,500000259,500000260,1000000000,1000000001,1000000002,1000000003,1000000004] (S_l d g j a k l) (qX 0 [2,4,5] [2,4,5,500000256,500000257,500000258,500000259,500000260,1000000000,1000000001,1000000002,1000000003,1000000004] (WL d g j a k)) o) (S_l d g j a k l b):=by
 have e:=ZA @S_l.eq_1 @WL.eq_1;unfold M_l at h;simp only[ZC,S_l,tI];obtain⟨m,h⟩|⟨m,h⟩:=aM h
 ·obtain⟨j1,x,h⟩:=ar h;obtain⟨k1,y,h⟩:=ar h;obtain⟨l1,z,h⟩:=ar h;have f:=ZA m (ZA (bq x) y);refine ZF f ?_;refine ZWG f (CW.w _ z) [500000256,500000257,500000258,500000259,500000260,1000000000,1000000001,1000000002,1000000003,1000000004] [502800256,502800257,502800258,502800259,502800260] ?_;obtain⟨p,h⟩|⟨p,h⟩:=aM h
  ·obtain⟨m1,a1,h⟩:=ar h;obtain⟨b1,c1,h⟩:=ar h;obtain⟨q,c,h⟩:=bg h;have d1:Row.arr 1 [(.i b1.Id:AV)]=Row.arr 1 (q.map AV.i):=by rw[<-c];rfl
   have t:q.length=1:=by rw[<-c];rfl
   obtain⟨p1,g1,h⟩:=ar h;have u:=bq g1;obtain⟨v,s,h⟩:=bg h;have i1:b.2.1.map AV.i++q.map AV.i=v.map AV.i:=by rw[<-s,A4]
   have w:b.2.1.length+1=v.length:=by simp[<-c,<-s]<;>omega
   rw[w] at u;cases h;exact ZL (ZA f (ZA p (ZA (bq a1) (ZA c1 (ZA d1 (ZA t (ZA u (ZA i1 w)))))))) (ZA e (ZA c.symm (ZA s.symm t)))
  ·cases h;exact ZL (ZA f p) e
 ·cases h;exact ZL m e
instance(a:List ByteArray)(b:List aw)(c:List af)(d:List af)(g:List Int):CW (SN a b c d g) (fun(r:List Int×List ByteArray×List aw×List af×List af×List Int×List ByteArray×List aw×List af×List af×List Int)=>OkM A1 119 [.agg [.sl 1000000000 0 a.length,.sl 1000000001 0 b.length,.sl 1000000002 0 c.length,.sl 1000000003 0 d.length,.sl 1000000004 0 g.length]] [(1000000000,.arr 1 (a.map AV.z)),(1000000001,.arr 4 (b.map (au .u))),(1000000002,.arr 5 (c.map (ai .m))),(1000000003,.arr 5 (d.map (ai .u))),(1000000004,.arr 1 (g.map AV.i))] (.tup [.agg [.sl 500000128 0 r.2.1.length,.sl 500000129 0 r.2.2.1.length,.sl 500000130 0 r.2.2.2.1.length,.sl 500000131 0 r.2.2.2.2.1.length,.sl 500000132 0 r.2.2.2.2.2.1.length],.sl 3 0 r.1.length]) ([(3,.arr 1 (r.1.map AV.i)),(500000128,.arr 1 (r.2.1.map AV.z)),(500000129,.arr 4 (r.2.2.1.map (au .u))),(500000130,.arr 5 (r.2.2.2.1.map (ai .m))),(500000131,.arr 5 (r.2.2.2.2.1.map (ai .u))),(500000132,.arr 1 (r.2.2.2.2.2.1.map AV.i)),(1000000000,.arr 1 (r.2.2.2.2.2.2.1.map AV.z)),(1000000001,.arr 4 (r.2.2.2.2.2.2.2.1.map (au .u))),(1000000002,.arr 5 (r.2.2.2.2.2.2.2.2.1.map (ai .m))),(1000000003,.arr 5 (r.2.2.2.2.2.2.2.2.2.1.map (ai .u))),(1000000004,.arr 1 (r.2.2.2.2.2.2.2.2.2.2.map AV.i))])):=⟨fun r h=>by
 refine bw (lr:=[3,500000128,500000129,500000130,500000131,500000132,1000000000,1000000001,1000000002,1000000003,1000000004]) cr aff rfl rfl ?_;unfold SN at h;simp only[ZC,Pg,V25];obtain⟨q,j,h⟩:=ar h;refine ZF trivial ?_;refine ZUG trivial (CW.w _ j) ?_;obtain⟨k,l,h⟩:=ar h;refine ZF trivial ?_;refine ZUG trivial (CW.w _ l) ?_;obtain⟨s,p,h⟩:=ar h;try refine ZF trivial ?_
 refine ba (bP (bf (w_l a b c d g k) p ?_)) ?_
 ·exact ZK (ZA @S_l.eq_1 @WL.eq_1)
 ·simp only[ZC,WL,zf];cases h;exact ZL trivial @V25.eq_1⟩
def Bd(a:List Int)(b:List Int)(v:Int):St:=⟨[(0,.lst .o 1 (a.map AV.i)),(1,.lst .o 1 (b.map AV.i)),(5,.i v)],[]⟩
instance(c:List Int)(d:List Int):CL (Um c d) ww [0,1,5] [] (Bd c d) (qS (qX 0 [] [] (cz)) (qR V85 (fun r=>.b r))):=⟨fun i o h=>by
 unfold Um at h;simp only[ZC,Bd,ww];exact ZT trivial (ZA @Bd.eq_1 (ZA @cz.eq_1 (ZA @V85.eq_1 @ww.eq_1))) h⟩
instance(c:List Int)(d:List Int):CW (KZ c d) (fun(r:Bool)=>Ok A1 227 [.lst .o 1 (c.map AV.i),.lst .o 1 (d.map AV.i)] (.b r)):=⟨fun r h=>ZO m227 (KZ.eq_1 _ _) ZJ (ZA @Bd.eq_1 (ZA @cz.eq_1 (ZA @KC.eq_1 (ZA @V85.eq_1 @A227.eq_1)))) h⟩
instance(c:aj)(d:aj):CW (Yh c d) (fun(r:Bool)=>Ok A1 199 [(ay .o c),(ay .o d)] (.b r)):=⟨fun r h=>ZO m199 (Yh.eq_1 _ _) trivial (ZA @V85.eq_1 @A199.eq_1) h⟩
instance(a:af)(c:af):CW (RD a c) (fun(r:Bool)=>Ok A1 164 [(ai .o a),(ai .o c)] (.b r)):=⟨fun r h=>ZO m164 (RD.eq_1 _ _) trivial (ZA @V85.eq_1 @A164.eq_1) h⟩
def xl(c:Int)(d:Int)(g:Int)(j:Int)(k:List ByteArray)(l:List aw)(p:List af)(b:List Int)(a:aB)(v:Int):St:=⟨[(3,.pt 3 0 0),(4,.pt 4 0 0),(5,.pt 5 0 0),(6,.i v)],[(3,.var (.agg [.i c,.i d,.sl 1000000003 0 b.length,.i g,.i j])),(4,.var (.agg [.lst .u 1 [],.lst .u 4 [],.lst .u 5 []])),(5,.var (.agg [.sl 8 0 a.F.N.length,.sl 1008 0 a.F.F.length,.sl 2008 0 a.N.length])),(8,.arr 1 (a.F.N.map AV.z)),(1008,.arr 4 (a.F.F.map (au .u))),(2008,.arr 5 (a.N.map (ai .u))),(1000000000,.arr 1 (k.map AV.z)),(1000000001,.arr 4 (l.map (au .u))),(1000000002,.arr 5 (p.map (ai .m))),(1000000003,.arr 1 (b.map AV.i))]⟩
theorem w_ad(a:Int)(d:Int)(g:Int)(i:Int)(j:List ByteArray)(k:List aw)(l:List af)(m:List Int)(b:aB)(q:Int)(o:Int⊕Int)(h:SH a b q=some o):AWP (OkS A1) wb (qL [3,4,5,6] [3,4,5,8,1008,2008,1000000000,1000000001,1000000002,1000000003] (xl a d g i j k l m b) (qX 0 [3,4,5,6] [3,4,5,8,1008,2008,1000000000,1000000001,1000000002,1000000003] (xl a d g i j k l m b)) o) (xl a d g i j k l m b q):=by
 have e:=ZA @xl.eq_1 @xl.eq_1;unfold SH at h;simp only[ZC,xl,wb];obtain⟨c,h⟩|⟨c,h⟩:=aM h
 ·obtain⟨u,s,h⟩:=ar h;obtain⟨v,t,h⟩:=ar h;obtain⟨p,h⟩|⟨p,h⟩:=aM h
  ·cases h;exact ZL (ZA c (ZA (bq s) (ZA t p))) e
  ·cases h;exact ZL (ZA c (ZA (bq s) (ZA t p))) e
 ·cases h;exact ZL c e
instance(t:Int)(v:Int)(w:Int)(x:Int)(k:List ByteArray)(l:List aw)(p:List af)(q:List Int):CW (KL t v w x k l p q) (fun(r:List ByteArray×List af×List aw×List ByteArray×List aw×List af×List Int)=>OkM A1 90 [.agg [.sl 1000000000 0 k.length,.sl 1000000001 0 l.length,.sl 1000000002 0 p.length],.agg [.i t,.i v,.sl 1000000003 0 q.length,.i w,.i x]] [(1000000000,.arr 1 (k.map AV.z)),(1000000001,.arr 4 (l.map (au .u))),(1000000002,.arr 5 (p.map (ai .m))),(1000000003,.arr 1 (q.map AV.i))] (.agg [.sl 8 0 r.1.length,.sl 1008 0 r.2.2.1.length,.sl 41 0 r.2.1.length]) ([(8,.arr 1 (r.1.map AV.z)),(41,.arr 5 (r.2.1.map (ai .m))),(1008,.arr 4 (r.2.2.1.map (au .u))),(1000000000,.arr 1 (r.2.2.2.1.map AV.z)),(1000000001,.arr 4 (r.2.2.2.2.1.map (au .u))),(1000000002,.arr 5 (r.2.2.2.2.2.1.map (ai .m))),(1000000003,.arr 1 (r.2.2.2.2.2.2.map AV.i))])):=⟨fun r h=>by
 refine bw (lr:=[8,41,1008,1000000000,1000000001,1000000002,1000000003]) cr ajd rfl rfl ?_;unfold KL at h;simp only[ZC,ZN,fy];obtain⟨s,l1,h⟩:=ar h;refine ZF trivial ?_;refine ZUG trivial (CW.w _ l1) ?_;obtain⟨y,m1,h⟩:=ar h;try refine ZF trivial ?_
 refine ba (bP (bf (w_ad t v w x k l p q s) m1 ?_)) ?_
 ·exact ZK (ZA @xl.eq_1 @xl.eq_1)
 ·simp only[ZC,xl,Eh];obtain⟨i2,p1,h⟩:=ar h;obtain⟨b,q1,h⟩:=bg h;have s1:sub (s.N.map (ai .u)) 0 (B3 y)=b.map (ai .u):=by rw[bz,q1]
  obtain⟨j2,t1,h⟩:=ar h;obtain⟨c,u1,h⟩:=ar h;have f:=ZA (bq p1) (ZA s1 (bq t1));refine ZF f ?_;refine ZUG f (CW.w _ u1) ?_;obtain⟨d,a,h⟩:=bg h;have v1:Row.arr 5 [(.agg [.i c.Id,.i c.F.N,.lst .u 1 (c.F.F.map AV.i),.i c.N.N,.i c.N.F]:AV)]=Row.arr 5 (d.map (ai .u)):=by rw[<-a];rfl
  have c1:d.length=1:=by rw[<-a];rfl
  obtain⟨k2,w1,h⟩:=ar h;have d1:=bq w1;obtain⟨g,j,h⟩:=bg h;have y1:b.map (ai .m)++d.map (ai .m)=g.map (ai .m):=by rw[<-j,A4]
  have g1:b.length+1=g.length:=by simp[<-a,<-j]<;>omega
  rw[g1] at d1;obtain⟨l2,z1,h⟩:=ar h;obtain⟨a1,a2,h⟩:=bg h;have b2:sub (s.N.map (ai .u)) (B3 y) (s.N.length-(B3 y))=a1.map (ai .u):=by rw[bz,a2]
  have c2:sub (b.map (ai .m)++d.map (ai .u)) 0 g.length=b.map (ai .m)++d.map (ai .u):=if_pos ⟨rfl,by simp[<-a,<-j]⟩;obtain⟨m2,d2,h⟩:=ar h;have i1:=bq d2;obtain⟨j1,b1,h⟩:=bg h;have g2:g.map (ai .m)++a1.map (ai .m)=j1.map (ai .m):=by rw[<-b1,A4]
  have k1:g.length+a1.length=j1.length:=by simp[<-a,<-j,<-b1]<;>omega
  rw[k1] at i1;cases h;exact ZL (ZA f (ZA v1 (ZA c1 (ZA d1 (ZA y1 (ZA g1 (ZA (bq z1) (ZA b2 (ZA c2 (ZA i1 (ZA g2 k1))))))))))) (ZA @fy.eq_1 (ZA a.symm (ZA j.symm (ZA b1.symm c1))))⟩
instance(b:Nat)(c:Nat)(d:Nat)(g:Nat)(j:Nat)(k:Nat)(a:Int)(l:List ByteArray)(p:List aw)(q:List af):CW (NW b c d g j k a l p q) (fun(r:List ByteArray×List af×List aw×List ByteArray×List aw×List af)=>OkM A1 165 [.agg [.sl 1000000000 b c,.sl 1000000001 d g,.sl 1000000002 j k],.i a] [(1000000000,.arr 1 (l.map AV.z)),(1000000001,.arr 4 (p.map (au .u))),(1000000002,.arr 5 (q.map (ai .m)))] (.agg [.sl 7 0 r.1.length,.sl 1007 0 r.2.2.1.length,.sl 19 0 r.2.1.length]) ([(7,.arr 1 (r.1.map AV.z)),(19,.arr 5 (r.2.1.map (ai .m))),(1007,.arr 4 (r.2.2.1.map (au .u))),(1000000000,.arr 1 (r.2.2.2.1.map AV.z)),(1000000001,.arr 4 (r.2.2.2.2.1.map (au .u))),(1000000002,.arr 5 (r.2.2.2.2.2.map (ai .m)))])):=⟨fun r h=>by
 refine bw (lr:=[7,19,1007,1000000000,1000000001,1000000002]) cr aau rfl rfl ?_;unfold NW at h;simp only[ZC,OS,fy];exact ZT ZJB @fy.eq_1 h⟩
def S_h(b:List ByteArray)(c:List aw)(d:List af)(g:List af)(j:List Int)(a:ae)(v:Int×Nat×Nat×Nat×List Int×List ByteArray×List aw×List af):St:=⟨[(1,.pt 1 0 0),(2,.pt 2 0 0),(4,.pt 4 0 0),(5,.sl 5 0 v.2.2.2.2.1.length),(6,.i v.1)],[(1,.var (.agg [.sl 1000000000 0 b.length,.sl 1000000001 0 c.length,.sl 1000000002 0 d.length,.sl 1000000003 0 g.length,.sl 1000000004 0 j.length])),(2,.var (.agg [.lst .u 1 [],.lst .u 4 [],.lst .u 5 [],.lst .u 5 [],.lst .u 1 []])),(4,.var (.agg [.sl 500000256 0 v.2.1,.sl 500000257 0 v.2.2.1,.sl 500000258 0 v.2.2.2.1,.sl 500000259 0 a.N.length,.sl 500000260 0 a.L.length])),(5,.arr 1 (v.2.2.2.2.1.map AV.i)),(500000256,.arr 1 (v.2.2.2.2.2.1.map AV.z)),(500000257,.arr 4 (v.2.2.2.2.2.2.1.map (au .u))),(500000258,.arr 5 (v.2.2.2.2.2.2.2.map (ai .m))),(500000259,.arr 5 (a.N.map (ai .u))),(500000260,.arr 1 (a.L.map AV.i)),(1000000000,.arr 1 (b.map AV.z)),(1000000001,.arr 4 (c.map (au .u))),(1000000002,.arr 5 (d.map (ai .m))),(1000000003,.arr 5 (g.map (ai .u))),(1000000004,.arr 1 (j.map AV.i))]⟩
def UB(b:List ByteArray)(c:List aw)(d:List af)(g:List af)(j:List Int)(a:ae)(v:Nat×Nat×Nat×List Int×List ByteArray×List aw×List af):St:=⟨[(2,.pt 2 0 0),(4,.pt 4 0 0),(5,.sl 5 0 v.2.2.2.1.length)],[(2,.var (.agg [.lst .u 1 [],.lst .u 4 [],.lst .u 5 [],.lst .u 5 [],.lst .u 1 []])),(4,.var (.agg [.sl 500000256 0 v.1,.sl 500000257 0 v.2.1,.sl 500000258 0 v.2.2.1,.sl 500000259 0 a.N.length,.sl 500000260 0 a.L.length])),(5,.arr 1 (v.2.2.2.1.map AV.i)),(500000256,.arr 1 (v.2.2.2.2.1.map AV.z)),(500000257,.arr 4 (v.2.2.2.2.2.1.map (au .u))),(500000258,.arr 5 (v.2.2.2.2.2.2.map (ai .m))),(500000259,.arr 5 (a.N.map (ai .u))),(500000260,.arr 1 (a.L.map AV.i)),(1000000000,.arr 1 (b.map AV.z)),(1000000001,.arr 4 (c.map (au .u))),(1000000002,.arr 5 (d.map (ai .m))),(1000000003,.arr 5 (g.map (ai .u))),(1000000004,.arr 1 (j.map AV.i))]⟩
theorem w_h(k:List ByteArray)(l:List aw)(p:List af)(d:List af)(g:List Int)(c:ae)(a:Int×Nat×Nat×Nat×List Int×List ByteArray×List aw×List af)(o:(Int×Nat×Nat×Nat×List Int×List ByteArray×List aw×List af)⊕(Nat×Nat×Nat×List Int×List ByteArray×List aw×List af))(h:M_h d g a=some o):AWP (OkS A1) rp (qL [1,2,4,5,6] [1,2,4,5,500000256,500000257,500000258,500000259,500000260,1000000000,1000000001,1000000002,1000000003,1000000004] (S_h k l p d g c) (qX 0 [2,4,5] [2,4,5,500000256,500000257,500000258,500000259,500000260,1000000000,1000000001,1000000002,1000000003,1000000004] (UB k l p d g c)) o) (S_h k l p d g c a):=by
 have e:=ZA @S_h.eq_1 @UB.eq_1;unfold M_h at h;simp only[ZC,S_h,rp];obtain⟨t,h⟩|⟨t,h⟩:=aM h
 ·obtain⟨v2,k1,h⟩:=ar h;obtain⟨j,l1,h⟩:=ar h;obtain⟨m1,p1,h⟩:=bg h;have q1:sub (a.2.2.2.2.2.1.map AV.z) 0 a.2.1=m1.map AV.z:=by rw[bz,p1]
  obtain⟨s1,t1,h⟩:=bg h;have u1:sub (a.2.2.2.2.2.2.1.map (au .u)) 0 a.2.2.1=s1.map (au .u):=by rw[bz,t1]
  obtain⟨v1,w1,h⟩:=bg h;have y1:sub (a.2.2.2.2.2.2.2.map (ai .m)) 0 a.2.2.2.1=v1.map (ai .m):=by rw[bz,w1]
  obtain⟨z1,a2,h⟩:=ar h;have f:=ZA t (ZA (bq k1) (ZA l1 (ZA q1 (ZA u1 y1))));refine ZF f ?_;refine ZSG f (CW.w _ a2) ?_;obtain⟨b2,c2,h⟩:=ar h;try refine ZF f ?_
  refine ba (sh:=(fun v=>⟨[(1,.pt 1 0 0),(2,.pt 2 0 0),(4,.pt 4 0 0),(5,.sl 5 0 a.2.2.2.2.1.length),(6,.i a.1),(7,.pt 7 0 0),(8,.i z1),(48,.b v)],[(1,.var (.agg [.sl 1000000000 0 k.length,.sl 1000000001 0 l.length,.sl 1000000002 0 p.length,.sl 1000000003 0 d.length,.sl 1000000004 0 g.length])),(2,.var (.agg [.lst .u 1 [],.lst .u 4 [],.lst .u 5 [],.lst .u 5 [],.lst .u 1 []])),(4,.var (.agg [.sl 500000256 0 a.2.1,.sl 500000257 0 a.2.2.1,.sl 500000258 0 a.2.2.2.1,.sl 500000259 0 c.N.length,.sl 500000260 0 c.L.length])),(5,.arr 1 (a.2.2.2.2.1.map AV.i)),(7,.var (ai .m j)),(500000256,.arr 1 (a.2.2.2.2.2.1.map AV.z)),(500000257,.arr 4 (a.2.2.2.2.2.2.1.map (au .u))),(500000258,.arr 5 (a.2.2.2.2.2.2.2.map (ai .m))),(500000259,.arr 5 (c.N.map (ai .u))),(500000260,.arr 1 (c.L.map AV.i)),(1000000000,.arr 1 (k.map AV.z)),(1000000001,.arr 4 (l.map (au .u))),(1000000002,.arr 5 (p.map (ai .m))),(1000000003,.arr 5 (d.map (ai .u))),(1000000004,.arr 1 (g.map AV.i))]⟩)) (s:=b2) ?_ ?_
  ·replace h:=c2;obtain⟨w,h⟩|⟨w,h⟩:=aM h
   ·cases h;exact ZL (ZA f w) trivial
   ·obtain⟨w2,d2,h⟩:=ar h;obtain⟨x2,g2,h⟩:=ar h;obtain⟨y2,i2,h⟩:=ar h;have f:=ZA f (ZA w (ZA (bq d2) g2));refine ZF f ?_;refine ZSG f (CW.w _ i2) ?_;obtain⟨x,h⟩|⟨x,h⟩:=aM h
    ·cases h;exact ZL (ZA f x) trivial
    ·obtain⟨z2,j2,h⟩:=ar h;have f:=ZA f x;refine ZF f ?_;refine ZSG f (CW.w _ j2) ?_;cases h;exact ZL f trivial
  ·simp only[ZC,AW];obtain⟨y,h⟩|⟨y,h⟩:=aM h
   ·cases h;exact ZL (ZA f y) e
   ·obtain⟨a3,k2,h⟩:=ar h;have f:=ZA f y;refine ZF f ?_;refine ZWG f (CW.w _ k2) [7,19,1007,1000000000,1000000001,1000000002] [5300007,5300019,5301007] ?_;obtain⟨b3,l2,h⟩:=ar h;refine ZF f ?_;refine ZSG f (CW.w _ l2) ?_;obtain⟨c3,m2,h⟩:=ar h;refine ZF f ?_;refine ZSG f (CW.w _ m2) ?_;obtain⟨a1,h⟩|⟨a1,h⟩:=aM h
    ·obtain⟨d3,p2,h⟩:=ar h;have f:=ZA f a1;refine ZF f ?_;refine ZUG f (CW.w _ p2) ?_;obtain⟨g3,q2,h⟩:=ar h;refine ZF f ?_;refine ZWG f (CW.w _ q2) [8,41,1008,1000000000,1000000001,1000000002,1000000003] [6600008,6600041,6601008] ?_;obtain⟨b1,q,h⟩:=bg h;have s2:Row.arr 1 [(.i j.Id:AV)]=Row.arr 1 (b1.map AV.i):=by rw[<-q];rfl
     have d1:b1.length=1:=by rw[<-q];rfl
     obtain⟨i3,t2,h⟩:=ar h;have g1:=bq t2;obtain⟨i1,c1,h⟩:=bg h;have u2:a.2.2.2.2.1.map AV.i++b1.map AV.i=i1.map AV.i:=by rw[<-c1,A4]
     have j1:a.2.2.2.2.1.length+1=i1.length:=by simp[<-q,<-c1]<;>omega
     rw[j1] at g1;cases h;exact ZL (ZA f (ZA s2 (ZA d1 (ZA g1 (ZA u2 j1))))) (ZA e (ZA q.symm (ZA c1.symm d1)))
    ·cases h;exact ZL (ZA f a1) e
 ·cases h;exact ZL t e
instance(a:List ByteArray)(b:List aw)(c:List af)(d:List af)(g:List Int):CW (LX a b c d g) (fun(r:Nat×Nat×Nat×Nat×Nat×Nat×List Int×List ByteArray×List aw×List af×List af×List Int×List ByteArray×List aw×List af×List af×List Int)=>OkM A1 105 [.agg [.sl 1000000000 0 a.length,.sl 1000000001 0 b.length,.sl 1000000002 0 c.length,.sl 1000000003 0 d.length,.sl 1000000004 0 g.length]] [(1000000000,.arr 1 (a.map AV.z)),(1000000001,.arr 4 (b.map (au .u))),(1000000002,.arr 5 (c.map (ai .m))),(1000000003,.arr 5 (d.map (ai .u))),(1000000004,.arr 1 (g.map AV.i))] (.tup [.agg [.sl 500000128 r.1 r.2.1,.sl 500000129 r.2.2.1 r.2.2.2.1,.sl 500000130 r.2.2.2.2.1 r.2.2.2.2.2.1,.sl 500000131 0 r.2.2.2.2.2.2.2.2.2.2.1.length,.sl 500000132 0 r.2.2.2.2.2.2.2.2.2.2.2.1.length],.sl 3 0 r.2.2.2.2.2.2.1.length]) ([(3,.arr 1 (r.2.2.2.2.2.2.1.map AV.i)),(500000128,.arr 1 (r.2.2.2.2.2.2.2.1.map AV.z)),(500000129,.arr 4 (r.2.2.2.2.2.2.2.2.1.map (au .u))),(500000130,.arr 5 (r.2.2.2.2.2.2.2.2.2.1.map (ai .m))),(500000131,.arr 5 (r.2.2.2.2.2.2.2.2.2.2.1.map (ai .u))),(500000132,.arr 1 (r.2.2.2.2.2.2.2.2.2.2.2.1.map AV.i)),(1000000000,.arr 1 (r.2.2.2.2.2.2.2.2.2.2.2.2.1.map AV.z)),(1000000001,.arr 4 (r.2.2.2.2.2.2.2.2.2.2.2.2.2.1.map (au .u))),(1000000002,.arr 5 (r.2.2.2.2.2.2.2.2.2.2.2.2.2.2.1.map (ai .m))),(1000000003,.arr 5 (r.2.2.2.2.2.2.2.2.2.2.2.2.2.2.2.1.map (ai .u))),(1000000004,.arr 1 (r.2.2.2.2.2.2.2.2.2.2.2.2.2.2.2.2.map AV.i))])):=⟨fun r h=>by
 refine bw (lr:=[3,500000128,500000129,500000130,500000131,500000132,1000000000,1000000001,1000000002,1000000003,1000000004]) cr abj rfl rfl ?_;unfold LX at h;simp only[ZC,RT,V25];obtain⟨j,k,h⟩:=ar h;refine ZF trivial ?_;refine ZUG trivial (CW.w _ k) ?_;obtain⟨p,l,h⟩:=ar h;try refine ZF trivial ?_
 refine ba (bP (bf (w_h a b c d g j) l ?_)) ?_
 ·exact ZK (ZA @S_h.eq_1 @UB.eq_1)
 ·simp only[ZC,UB,Bc];cases h;exact ZL trivial @V25.eq_1⟩
def S_m(d:Nat)(g:Nat)(j:Nat)(k:Nat)(l:Nat)(p:Nat)(q:List Int)(s:List ByteArray)(t:List aw)(w:List af)(b:List af)(c:List Int)(a:ae)(v:Int×List Int):St:=⟨[(1,.lst .m 1 (q.map AV.i)),(2,.pt 2 0 0),(4,.pt 4 0 0),(6,.pt 6 0 0),(7,.sl 7 0 0),(8,.i v.1)],[(2,.var (.agg [.sl 1000000000 d g,.sl 1000000001 j k,.sl 1000000002 l p,.sl 1000000003 0 b.length,.sl 1000000004 0 c.length])),(4,.var (.agg [.lst .u 1 [],.lst .u 4 [],.lst .u 5 [],.lst .u 5 [],.lst .u 1 []])),(6,.var (.agg [.sl 500000384 0 a.F.F.N.length,.sl 500000385 0 a.F.F.F.length,.sl 500000386 0 a.F.N.length,.sl 500000387 0 a.N.length,.sl 500000388 0 v.2.length])),(7,.arr 1 []),(500000384,.arr 1 (a.F.F.N.map AV.z)),(500000385,.arr 4 (a.F.F.F.map (au .u))),(500000386,.arr 5 (a.F.N.map (ai .m))),(500000387,.arr 5 (a.N.map (ai .u))),(500000388,.arr 1 (v.2.map AV.i)),(1000000000,.arr 1 (s.map AV.z)),(1000000001,.arr 4 (t.map (au .u))),(1000000002,.arr 5 (w.map (ai .m))),(1000000003,.arr 5 (b.map (ai .u))),(1000000004,.arr 1 (c.map AV.i))]⟩
def Vq(d:Nat)(g:Nat)(j:Nat)(k:Nat)(l:Nat)(p:Nat)(q:List Int)(s:List ByteArray)(t:List aw)(w:List af)(b:List af)(c:List Int)(a:ae)(v:List Int):St:=⟨[(1,.lst .m 1 (q.map AV.i)),(2,.pt 2 0 0),(4,.pt 4 0 0),(6,.pt 6 0 0),(7,.sl 7 0 0)],[(2,.var (.agg [.sl 1000000000 d g,.sl 1000000001 j k,.sl 1000000002 l p,.sl 1000000003 0 b.length,.sl 1000000004 0 c.length])),(4,.var (.agg [.lst .u 1 [],.lst .u 4 [],.lst .u 5 [],.lst .u 5 [],.lst .u 1 []])),(6,.var (.agg [.sl 500000384 0 a.F.F.N.length,.sl 500000385 0 a.F.F.F.length,.sl 500000386 0 a.F.N.length,.sl 500000387 0 a.N.length,.sl 500000388 0 v.length])),(7,.arr 1 []),(500000384,.arr 1 (a.F.F.N.map AV.z)),(500000385,.arr 4 (a.F.F.F.map (au .u))),(500000386,.arr 5 (a.F.N.map (ai .m))),(500000387,.arr 5 (a.N.map (ai .u))),(500000388,.arr 1 (v.map AV.i)),(1000000000,.arr 1 (s.map AV.z)),(1000000001,.arr 4 (t.map (au .u))),(1000000002,.arr 5 (w.map (ai .m))),(1000000003,.arr 5 (b.map (ai .u))),(1000000004,.arr 1 (c.map AV.i))]⟩
def w_m(b:Nat)(c:Nat)(d:Nat)(g:Nat)(i:Nat)(j:Nat)(a:List Int)(k:List ByteArray)(l:List aw)(m:List af)(p:List af)(q:List Int)(s:ae)(u:Int×List Int)(o:(Int×List Int)⊕(List Int))(h:M_m a u=some o):AWP (OkS A1) rR (qL [1,2,4,6,7,8] [2,4,6,7,500000384,500000385,500000386,500000387,500000388,1000000000,1000000001,1000000002,1000000003,1000000004] (S_m b c d g i j a k l m p q s) (qX 0 [1,2,4,6,7] [2,4,6,7,500000384,500000385,500000386,500000387,500000388,1000000000,1000000001,1000000002,1000000003,1000000004] (Vq b c d g i j a k l m p q s)) o) (S_m b c d g i j a k l m p q s u):=by
 have e:=ZA @S_m.eq_1 @Vq.eq_1;unfold M_m at h;simp only[ZC,S_m,rR];obtain⟨t,h⟩|⟨t,h⟩:=aM h
 ·obtain⟨x,v,h⟩:=ar h;obtain⟨y,w,h⟩:=ar h;have f:=ZA t (ec v);refine ZF f ?_;refine ZWG f (CW.w _ w) [4] [2700004] ?_;cases h;exact ZL f e
 ·cases h;exact ZL t e
def S_n(g:Nat)(j:Nat)(k:Nat)(l:Nat)(p:Nat)(q:Nat)(s:List Int)(t:List ByteArray)(w:List aw)(x:List af)(a:List af)(b:List Int)(c:ae)(d:List Int)(v:Int×List Int×List ByteArray×List aw×List af):St:=⟨[(1,.lst .m 1 (s.map AV.i)),(2,.pt 2 0 0),(4,.pt 4 0 0),(6,.pt 6 0 0),(7,.sl 7 0 v.2.1.length),(9,.i v.1)],[(2,.var (.agg [.sl 1000000000 g j,.sl 1000000001 k l,.sl 1000000002 p q,.sl 1000000003 0 a.length,.sl 1000000004 0 b.length])),(4,.var (.agg [.lst .u 1 [],.lst .u 4 [],.lst .u 5 [],.lst .u 5 [],.lst .u 1 []])),(6,.var (.agg [.sl 500000384 0 v.2.2.1.length,.sl 500000385 0 v.2.2.2.1.length,.sl 500000386 0 v.2.2.2.2.length,.sl 500000387 0 c.N.length,.sl 500000388 0 d.length])),(7,.arr 1 (v.2.1.map AV.i)),(500000384,.arr 1 (v.2.2.1.map AV.z)),(500000385,.arr 4 (v.2.2.2.1.map (au .u))),(500000386,.arr 5 (v.2.2.2.2.map (ai .m))),(500000387,.arr 5 (c.N.map (ai .u))),(500000388,.arr 1 (d.map AV.i)),(1000000000,.arr 1 (t.map AV.z)),(1000000001,.arr 4 (w.map (au .u))),(1000000002,.arr 5 (x.map (ai .m))),(1000000003,.arr 5 (a.map (ai .u))),(1000000004,.arr 1 (b.map AV.i))]⟩
def WE(c:List ByteArray)(d:List aw)(g:List af)(j:List af)(k:List Int)(a:ae)(b:List Int)(v:List Int×List ByteArray×List aw×List af):St:=⟨[(4,.pt 4 0 0),(6,.pt 6 0 0),(7,.sl 7 0 v.1.length)],[(4,.var (.agg [.lst .u 1 [],.lst .u 4 [],.lst .u 5 [],.lst .u 5 [],.lst .u 1 []])),(6,.var (.agg [.sl 500000384 0 v.2.1.length,.sl 500000385 0 v.2.2.1.length,.sl 500000386 0 v.2.2.2.length,.sl 500000387 0 a.N.length,.sl 500000388 0 b.length])),(7,.arr 1 (v.1.map AV.i)),(500000384,.arr 1 (v.2.1.map AV.z)),(500000385,.arr 4 (v.2.2.1.map (au .u))),(500000386,.arr 5 (v.2.2.2.map (ai .m))),(500000387,.arr 5 (a.N.map (ai .u))),(500000388,.arr 1 (b.map AV.i)),(1000000000,.arr 1 (c.map AV.z)),(1000000001,.arr 4 (d.map (au .u))),(1000000002,.arr 5 (g.map (ai .m))),(1000000003,.arr 5 (j.map (ai .u))),(1000000004,.arr 1 (k.map AV.i))]⟩
theorem w_n(x:Nat)(y:Nat)(z:Nat)(a1:Nat)(d:Nat)(g:Nat)(j:List Int)(k:List ByteArray)(l:List aw)(a:List af)(m:List af)(p:List Int)(q:ae)(s:List Int)(b:Int×List Int×List ByteArray×List aw×List af)(o:(Int×List Int×List ByteArray×List aw×List af)⊕(List Int×List ByteArray×List aw×List af))(h:M_n d g j a b=some o):AWP (OkS A1) sk (qL [1,2,4,6,7,9] [2,4,6,7,500000384,500000385,500000386,500000387,500000388,1000000000,1000000001,1000000002,1000000003,1000000004] (S_n x y z a1 d g j k l a m p q s) (qX 2 [4,6,7] [4,6,7,500000384,500000385,500000386,500000387,500000388,1000000000,1000000001,1000000002,1000000003,1000000004] (WE k l a m p q s)) o) (S_n x y z a1 d g j k l a m p q s b):=by
 have e:=ZA @S_n.eq_1 @WE.eq_1;unfold M_n at h;simp only[ZC,S_n,sk];obtain⟨t,h⟩|⟨t,h⟩:=aM h
 ·obtain⟨u1,i1,h⟩:=ar h;obtain⟨j1,k1,h⟩:=ar h;obtain⟨v1,l1,h⟩:=ar h;have f:=ZA t (ZA (bq i1) k1);refine ZF f ?_;refine ZSG f (CW.w _ l1) ?_;obtain⟨u,h⟩|⟨u,h⟩:=aM h
  ·obtain⟨v,c,h⟩:=bg h;have m1:Row.arr 1 [(.i j1.Id:AV)]=Row.arr 1 (v.map AV.i):=by rw[<-c];rfl
   have b1:v.length=1:=by rw[<-c];rfl
   obtain⟨w1,p1,h⟩:=ar h;have c1:=bq p1;obtain⟨d1,w,h⟩:=bg h;have q1:b.2.1.map AV.i++v.map AV.i=d1.map AV.i:=by rw[<-w,A4]
   have g1:b.2.1.length+1=d1.length:=by simp[<-c,<-w]<;>omega
   rw[g1] at c1;obtain⟨y1,s1,h⟩:=ar h;have f:=ZA f (ZA u (ZA m1 (ZA b1 (ZA c1 (ZA q1 g1)))));refine ZF f ?_;refine ZSG f (CW.w _ s1) ?_;obtain⟨z1,t1,h⟩:=ar h;refine ZF f ?_;refine ZWG f (CW.w _ t1) [7,19,1007,1000000000,1000000001,1000000002] [5900007,5900019,5901007] ?_;cases h;exact ZL f (ZA e (ZA c.symm (ZA w.symm b1)))
  ·cases h;exact ZL (ZA f u) e
 ·cases h;exact ZL t e
instance(a:Nat)(b:Nat)(c:Nat)(d:Nat)(g:Nat)(j:Nat)(t:List Int)(k:List ByteArray)(l:List aw)(p:List af)(q:List af)(s:List Int):CW (Rg a b c d g j t k l p q s) (fun(r:List Int×List ByteArray×List aw×List af×List af×List Int×List ByteArray×List aw×List af×List af×List Int)=>OkM A1 109 [.agg [.sl 1000000000 a b,.sl 1000000001 c d,.sl 1000000002 g j,.sl 1000000003 0 q.length,.sl 1000000004 0 s.length],.lst .m 1 (t.map AV.i)] [(1000000000,.arr 1 (k.map AV.z)),(1000000001,.arr 4 (l.map (au .u))),(1000000002,.arr 5 (p.map (ai .m))),(1000000003,.arr 5 (q.map (ai .u))),(1000000004,.arr 1 (s.map AV.i))] (.tup [.agg [.sl 500000256 0 r.2.1.length,.sl 500000257 0 r.2.2.1.length,.sl 500000258 0 r.2.2.2.1.length,.sl 500000259 0 r.2.2.2.2.1.length,.sl 500000260 0 r.2.2.2.2.2.1.length],.sl 5 0 r.1.length]) ([(5,.arr 1 (r.1.map AV.i)),(500000256,.arr 1 (r.2.1.map AV.z)),(500000257,.arr 4 (r.2.2.1.map (au .u))),(500000258,.arr 5 (r.2.2.2.1.map (ai .m))),(500000259,.arr 5 (r.2.2.2.2.1.map (ai .u))),(500000260,.arr 1 (r.2.2.2.2.2.1.map AV.i)),(1000000000,.arr 1 (r.2.2.2.2.2.2.1.map AV.z)),(1000000001,.arr 4 (r.2.2.2.2.2.2.2.1.map (au .u))),(1000000002,.arr 5 (r.2.2.2.2.2.2.2.2.1.map (ai .m))),(1000000003,.arr 5 (r.2.2.2.2.2.2.2.2.2.1.map (ai .u))),(1000000004,.arr 1 (r.2.2.2.2.2.2.2.2.2.2.map AV.i))])):=⟨fun r h=>by
 refine bw (lr:=[5,500000256,500000257,500000258,500000259,500000260,1000000000,1000000001,1000000002,1000000003,1000000004]) cr aat rfl rfl ?_;unfold Rg at h;simp only[ZC,LE,jx];obtain⟨w,x,h⟩:=bg h;have y:sub (k.map AV.z) a b=w.map AV.z:=by rw[bz,x]
 obtain⟨a1,b1,h⟩:=bg h;have c1:sub (l.map (au .u)) c d=a1.map (au .u):=by rw[bz,b1]
 obtain⟨d1,g1,h⟩:=bg h;have i1:sub (p.map (ai .m)) g j=d1.map (ai .m):=by rw[bz,g1]
 obtain⟨v,j1,h⟩:=ar h;have f:=ZA y (ZA c1 i1);refine ZF f ?_;refine ZUG f (CW.w _ j1) ?_;obtain⟨k1,l1,h⟩:=ar h;try refine ZF f ?_
 refine ba (bP (bf (w_m a b c d g j t k l p q s v) l1 ?_)) ?_
 ·exact ZK (ZA @S_m.eq_1 @Vq.eq_1)
 ·simp only[ZC,Vq,zh];obtain⟨p1,m1,h⟩:=ar h;try refine ZF f ?_
  refine ba (bP (bf (w_n a b c d g j t k l p q s v k1) m1 ?_)) ?_
  ·exact ZK (ZA @S_n.eq_1 @WE.eq_1)
  ·simp only[ZC,WE,zK];cases h;exact ZL f @jx.eq_1⟩
def Xl(a:List ByteArray)(b:List aw)(c:List af)(d:List ax)(v:Int×List Int×Nat×Nat×Nat×Nat×Nat×Nat×List ByteArray×List aw×List af×List af×List Int):St:=⟨[(1,.sl 1000000003 0 d.length),(2,.pt 2 0 0),(5,.pt 5 0 0),(7,.sl 7 0 v.2.1.length),(8,.pt 8 0 0),(10,.i v.1)],[(2,.var (.agg [.sl 1000000000 0 a.length,.sl 1000000001 0 b.length,.sl 1000000002 0 c.length])),(5,.var (.agg [.lst .u 1 [],.lst .u 4 [],.lst .u 5 [],.lst .u 5 [],.lst .u 1 []])),(7,.arr 1 (v.2.1.map AV.i)),(8,.var (.agg [.sl 500000512 v.2.2.1 v.2.2.2.1,.sl 500000513 v.2.2.2.2.1 v.2.2.2.2.2.1,.sl 500000514 v.2.2.2.2.2.2.1 v.2.2.2.2.2.2.2.1,.sl 500000515 0 v.2.2.2.2.2.2.2.2.2.2.2.1.length,.sl 500000516 0 v.2.2.2.2.2.2.2.2.2.2.2.2.length])),(500000512,.arr 1 (v.2.2.2.2.2.2.2.2.1.map AV.z)),(500000513,.arr 4 (v.2.2.2.2.2.2.2.2.2.1.map (au .u))),(500000514,.arr 5 (v.2.2.2.2.2.2.2.2.2.2.1.map (ai .m))),(500000515,.arr 5 (v.2.2.2.2.2.2.2.2.2.2.2.1.map (ai .u))),(500000516,.arr 1 (v.2.2.2.2.2.2.2.2.2.2.2.2.map AV.i)),(1000000000,.arr 1 (a.map AV.z)),(1000000001,.arr 4 (b.map (au .u))),(1000000002,.arr 5 (c.map (ai .u))),(1000000003,.arr 2 (d.map (aF .u)))]⟩
def Er(a:List ByteArray)(b:List aw)(c:List af)(d:List ax)(v:List Int×Nat×Nat×Nat×Nat×Nat×Nat×List ByteArray×List aw×List af×List af×List Int):St:=⟨[(5,.pt 5 0 0),(7,.sl 7 0 v.1.length),(8,.pt 8 0 0)],[(5,.var (.agg [.lst .u 1 [],.lst .u 4 [],.lst .u 5 [],.lst .u 5 [],.lst .u 1 []])),(7,.arr 1 (v.1.map AV.i)),(8,.var (.agg [.sl 500000512 v.2.1 v.2.2.1,.sl 500000513 v.2.2.2.1 v.2.2.2.2.1,.sl 500000514 v.2.2.2.2.2.1 v.2.2.2.2.2.2.1,.sl 500000515 0 v.2.2.2.2.2.2.2.2.2.2.1.length,.sl 500000516 0 v.2.2.2.2.2.2.2.2.2.2.2.length])),(500000512,.arr 1 (v.2.2.2.2.2.2.2.1.map AV.z)),(500000513,.arr 4 (v.2.2.2.2.2.2.2.2.1.map (au .u))),(500000514,.arr 5 (v.2.2.2.2.2.2.2.2.2.1.map (ai .m))),(500000515,.arr 5 (v.2.2.2.2.2.2.2.2.2.2.1.map (ai .u))),(500000516,.arr 1 (v.2.2.2.2.2.2.2.2.2.2.2.map AV.i)),(1000000000,.arr 1 (a.map AV.z)),(1000000001,.arr 4 (b.map (au .u))),(1000000002,.arr 5 (c.map (ai .u))),(1000000003,.arr 2 (d.map (aF .u)))]⟩
instance(d:List ByteArray)(g:List aw)(j:List af)(k:List ax):CL (Bu d g j k) xK [1,2,5,7,8,10] [2,5,7,8,500000512,500000513,500000514,500000515,500000516,1000000000,1000000001,1000000002,1000000003] (Xl d g j k) (qS (qX 0 [5,7,8] [5,7,8,500000512,500000513,500000514,500000515,500000516,1000000000,1000000001,1000000002,1000000003] (Er d g j k)) (qM mJ [4,500000320,500000321,500000322,500000323,500000324,1000000000,1000000001,1000000002,1000000003] (fun(r:Nat×Nat×Nat×Nat×Nat×Nat×Bool×List Int×List ByteArray×List aw×List af×List af×List Int×List ByteArray×List aw×List af×List ax)=>.tup [.sl 4 0 r.2.2.2.2.2.2.2.1.length,.agg [.sl 500000320 r.1 r.2.1,.sl 500000321 r.2.2.1 r.2.2.2.1,.sl 500000322 r.2.2.2.2.1 r.2.2.2.2.2.1,.sl 500000323 0 r.2.2.2.2.2.2.2.2.2.2.2.1.length,.sl 500000324 0 r.2.2.2.2.2.2.2.2.2.2.2.2.1.length],.b r.2.2.2.2.2.2.1]) (fun(r:Nat×Nat×Nat×Nat×Nat×Nat×Bool×List Int×List ByteArray×List aw×List af×List af×List Int×List ByteArray×List aw×List af×List ax)=>[(4,.arr 1 (r.2.2.2.2.2.2.2.1.map AV.i)),(500000320,.arr 1 (r.2.2.2.2.2.2.2.2.1.map AV.z)),(500000321,.arr 4 (r.2.2.2.2.2.2.2.2.2.1.map (au .u))),(500000322,.arr 5 (r.2.2.2.2.2.2.2.2.2.2.1.map (ai .m))),(500000323,.arr 5 (r.2.2.2.2.2.2.2.2.2.2.2.1.map (ai .u))),(500000324,.arr 1 (r.2.2.2.2.2.2.2.2.2.2.2.2.1.map AV.i)),(1000000000,.arr 1 (r.2.2.2.2.2.2.2.2.2.2.2.2.2.1.map AV.z)),(1000000001,.arr 4 (r.2.2.2.2.2.2.2.2.2.2.2.2.2.2.1.map (au .u))),(1000000002,.arr 5 (r.2.2.2.2.2.2.2.2.2.2.2.2.2.2.2.1.map (ai .u))),(1000000003,.arr 2 (r.2.2.2.2.2.2.2.2.2.2.2.2.2.2.2.2.map (aF .u)))]))):=⟨fun a o h=>by
 have e:=ZA @Xl.eq_1 @Er.eq_1;unfold Bu at h;simp only[ZC,Xl,xK];obtain⟨p,h⟩|⟨p,h⟩:=aM h
 ·obtain⟨w2,d1,h⟩:=ar h;obtain⟨x2,g1,h⟩:=ar h;obtain⟨y2,i1,h⟩:=ar h;have f:=ZA p (ZA (bq d1) g1);refine ZF f ?_;refine ZSG f (CW.w _ i1) ?_;obtain⟨q,h⟩|⟨q,h⟩:=aM h
  ·cases h;exact ZL (ZA f q) @mJ.eq_1
  ·obtain⟨j1,k1,h⟩:=ar h;have f:=ZA f q;try refine ZF f ?_
   refine ba (sh:=(fun v=>⟨[(1,.sl 1000000003 0 k.length),(2,.pt 2 0 0),(5,.pt 5 0 0),(7,.sl 7 0 a.2.1.length),(8,.pt 8 0 0),(10,.i a.1)],[(2,.var (.agg [.sl 1000000000 0 d.length,.sl 1000000001 0 g.length,.sl 1000000002 0 j.length])),(5,.var (.agg [.lst .u 1 [],.lst .u 4 [],.lst .u 5 [],.lst .u 5 [],.lst .u 1 []])),(7,.arr 1 (a.2.1.map AV.i)),(8,.var (.agg [.sl 500000512 0 v.1.length,.sl 500000513 0 v.2.1.length,.sl 500000514 0 v.2.2.1.length,.sl 500000515 0 v.2.2.2.1.length,.sl 500000516 0 v.2.2.2.2.length])),(500000512,.arr 1 (v.1.map AV.z)),(500000513,.arr 4 (v.2.1.map (au .u))),(500000514,.arr 5 (v.2.2.1.map (ai .m))),(500000515,.arr 5 (v.2.2.2.1.map (ai .u))),(500000516,.arr 1 (v.2.2.2.2.map AV.i)),(1000000000,.arr 1 (d.map AV.z)),(1000000001,.arr 4 (g.map (au .u))),(1000000002,.arr 5 (j.map (ai .u))),(1000000003,.arr 2 (k.map (aF .u)))]⟩)) (s:=j1) ?_ ?_
   ·replace h:=k1;obtain⟨t,h⟩|⟨t,h⟩:=aM h
    ·obtain⟨z2,l1,h⟩:=ar h;have f:=ZA f t;refine ZF f ?_;refine ZWG f (CW.w _ l1) [5,500000256,500000257,500000258,500000259,500000260,1000000000,1000000001,1000000002,1000000003,1000000004] [5900005,505900256,505900257,505900258,505900259,505900260] ?_;cases h;exact ZL f trivial
    ·obtain⟨m1,p1,h⟩:=bg h;have q1:sub (a.2.2.2.2.2.2.2.2.1.map AV.z) a.2.2.1 a.2.2.2.1=m1.map AV.z:=by rw[bz,p1]
     obtain⟨s1,t1,h⟩:=bg h;have u1:sub (a.2.2.2.2.2.2.2.2.2.1.map (au .u)) a.2.2.2.2.1 a.2.2.2.2.2.1=s1.map (au .u):=by rw[bz,t1]
     obtain⟨v1,w1,h⟩:=bg h;have y1:sub (a.2.2.2.2.2.2.2.2.2.2.1.map (ai .m)) a.2.2.2.2.2.2.1 a.2.2.2.2.2.2.2.1=v1.map (ai .m):=by rw[bz,w1]
     obtain⟨a3,z1,h⟩:=ar h;have f:=ZA f (ZA t (ZA q1 (ZA u1 y1)));refine ZF f ?_;refine ZUG f (CW.w _ z1) ?_;cases h;exact ZL f trivial
   ·simp only[ZC,EX];obtain⟨b3,a2,h⟩:=ar h;refine ZF f ?_;refine ZWG f (CW.w _ a2) [3,500000128,500000129,500000130,500000131,500000132,1000000000,1000000001,1000000002,1000000003,1000000004] [7100003,507100128,507100129,507100130,507100131,507100132] ?_;obtain⟨c,b2,h⟩:=ar h;refine ZF f ?_;refine ZWG f (CW.w _ b2) [3,500000128,500000129,500000130,500000131,500000132,1000000000,1000000001,1000000002,1000000003,1000000004] [7600003,507600128,507600129,507600130,507600131,507600132] ?_;obtain⟨c2,d2,h⟩:=bg h;have g2:sub (c.2.2.2.2.2.2.2.1.map AV.z) c.1 c.2.1=c2.map AV.z:=by rw[bz,d2]
    obtain⟨i2,j2,h⟩:=bg h;have k2:sub (c.2.2.2.2.2.2.2.2.1.map (au .u)) c.2.2.1 c.2.2.2.1=i2.map (au .u):=by rw[bz,j2]
    obtain⟨l2,m2,h⟩:=bg h;have p2:sub (c.2.2.2.2.2.2.2.2.2.1.map (ai .m)) c.2.2.2.2.1 c.2.2.2.2.2.1=l2.map (ai .m):=by rw[bz,m2]
    obtain⟨q2,s2,h⟩:=ar h;have f:=ZA f (ZA g2 (ZA k2 p2));refine ZF f ?_;refine ZUG f (CW.w _ s2) ?_;obtain⟨w,l,h⟩:=bg h;have t2:Row.arr 1 [(.i (q2.length:Int):AV)]=Row.arr 1 (w.map AV.i):=by rw[<-l];rfl
    have y:w.length=1:=by rw[<-l];rfl
    obtain⟨c3,u2,h⟩:=ar h;have a1:=bq u2;obtain⟨b1,x,h⟩:=bg h;have v2:a.2.1.map AV.i++w.map AV.i=b1.map AV.i:=by rw[<-x,A4]
    have c1:a.2.1.length+1=b1.length:=by simp[<-l,<-x]<;>omega
    rw[c1] at a1;cases h;exact ZL (ZA f (ZA t2 (ZA y (ZA a1 (ZA v2 c1))))) (ZA e (ZA l.symm (ZA x.symm y)))
 ·cases h;exact ZL p e⟩
instance(c:List ByteArray)(d:List aw)(g:List af)(j:List ax):CW (MP c d g j) (fun(r:Nat×Nat×Nat×Nat×Nat×Nat×Bool×List Int×List ByteArray×List aw×List af×List af×List Int×List ByteArray×List aw×List af×List ax)=>OkM A1 54 [.agg [.sl 1000000000 0 c.length,.sl 1000000001 0 d.length,.sl 1000000002 0 g.length],.sl 1000000003 0 j.length] [(1000000000,.arr 1 (c.map AV.z)),(1000000001,.arr 4 (d.map (au .u))),(1000000002,.arr 5 (g.map (ai .u))),(1000000003,.arr 2 (j.map (aF .u)))] (.tup [.sl 4 0 r.2.2.2.2.2.2.2.1.length,.agg [.sl 500000320 r.1 r.2.1,.sl 500000321 r.2.2.1 r.2.2.2.1,.sl 500000322 r.2.2.2.2.1 r.2.2.2.2.2.1,.sl 500000323 0 r.2.2.2.2.2.2.2.2.2.2.2.1.length,.sl 500000324 0 r.2.2.2.2.2.2.2.2.2.2.2.2.1.length],.b r.2.2.2.2.2.2.1]) ([(4,.arr 1 (r.2.2.2.2.2.2.2.1.map AV.i)),(500000320,.arr 1 (r.2.2.2.2.2.2.2.2.1.map AV.z)),(500000321,.arr 4 (r.2.2.2.2.2.2.2.2.2.1.map (au .u))),(500000322,.arr 5 (r.2.2.2.2.2.2.2.2.2.2.1.map (ai .m))),(500000323,.arr 5 (r.2.2.2.2.2.2.2.2.2.2.2.1.map (ai .u))),(500000324,.arr 1 (r.2.2.2.2.2.2.2.2.2.2.2.2.1.map AV.i)),(1000000000,.arr 1 (r.2.2.2.2.2.2.2.2.2.2.2.2.2.1.map AV.z)),(1000000001,.arr 4 (r.2.2.2.2.2.2.2.2.2.2.2.2.2.2.1.map (au .u))),(1000000002,.arr 5 (r.2.2.2.2.2.2.2.2.2.2.2.2.2.2.2.1.map (ai .u))),(1000000003,.arr 2 (r.2.2.2.2.2.2.2.2.2.2.2.2.2.2.2.2.map (aF .u)))])):=⟨fun r h=>by
 refine bw (lr:=[4,500000320,500000321,500000322,500000323,500000324,1000000000,1000000001,1000000002,1000000003]) cr ain rfl rfl ?_;unfold MP at h;simp only[ZC,ZV,mJ];obtain⟨a,p,h⟩:=ar h;refine ZF trivial ?_;refine ZUG trivial (CW.w _ p) ?_;obtain⟨q,t,h⟩:=ar h;try refine ZF trivial ?_
 refine ba (sh:=(fun v=>⟨[(1,.sl 1000000003 0 j.length),(2,.pt 2 0 0),(5,.pt 5 0 0),(7,.sl 7 0 0),(8,.pt 8 0 0),(23,.b v)],[(2,.var (.agg [.sl 1000000000 0 c.length,.sl 1000000001 0 d.length,.sl 1000000002 0 g.length])),(5,.var (.agg [.lst .u 1 [],.lst .u 4 [],.lst .u 5 [],.lst .u 5 [],.lst .u 1 []])),(7,.arr 1 []),(8,.var (.agg [.sl 500000512 0 a.1.F.F.N.length,.sl 500000513 0 a.1.F.F.F.length,.sl 500000514 0 a.1.F.N.length,.sl 500000515 0 a.1.N.length,.sl 500000516 0 a.1.L.length])),(500000512,.arr 1 (a.1.F.F.N.map AV.z)),(500000513,.arr 4 (a.1.F.F.F.map (au .u))),(500000514,.arr 5 (a.1.F.N.map (ai .m))),(500000515,.arr 5 (a.1.N.map (ai .u))),(500000516,.arr 1 (a.1.L.map AV.i)),(1000000000,.arr 1 (c.map AV.z)),(1000000001,.arr 4 (d.map (au .u))),(1000000002,.arr 5 (g.map (ai .u))),(1000000003,.arr 2 (j.map (aF .u)))]⟩)) (s:=q) ?_ ?_
 ·replace h:=t;obtain⟨l,h⟩|⟨l,h⟩:=aM h
  ·cases h;exact ZL l trivial
  ·cases h;exact ZL l trivial
 ·simp only[ZC,Fo];obtain⟨k,h⟩|⟨k,h⟩:=aM h
  ·cases h;exact ZL k @mJ.eq_1
  ·obtain⟨w,x,h⟩:=ar h;try refine ZF k ?_
   refine gw (o:=w) (gG LL (bf CL.w x ?_)) (fun a1 hv=>?_) (fun b1 hv e τ hne hq=>?_)
   ·exact ZK (ZA @Xl.eq_1 @Er.eq_1)
   ·subst hv;simp only[] at h;simp only[ZC,Er,Fh];cases h;exact ZL k @mJ.eq_1
   ·subst hv;simp only[] at h;obtain⟨rfl,y⟩:=hq;cases h;exact y⟩
instance(c:Int)(d:Int)(g:Int):CW (mF c d g) (fun(r:Bool)=>Ok A1 132 [.i c,.i d,.i g] (.b r)):=⟨fun r h=>ZO m132 (mF.eq_1 _ _ _) trivial (ZA @jw.eq_1 @A132.eq_1) h⟩
def Wd(a:ByteArray)(v:Int):St:=⟨[(0,.z a),(7,.i (a.size:Int)),(8,.i v)],[]⟩
def OZ(a:ByteArray)(v:Unit):St:=⟨[(0,.z a)],[]⟩
instance(c:ByteArray):CL (HY c) vT [0,7,8] [] (Wd c) (qS (qX 0 [0] [] (OZ c)) (qR V91 (fun r=>.b r))):=⟨fun j o h=>by
 unfold HY at h;simp only[ZC,Wd,vT];exact ZT ZJ (ZA @Wd.eq_1 (ZA @OZ.eq_1 (ZA @V91.eq_1 (ZA @vT.eq_1 @Oo.eq_1)))) h⟩
instance(a:ByteArray):CW (Nw a) (fun(r:Bool)=>Ok A1 180 [.z a] (.b r)):=⟨fun r h=>ZO m180 (Nw.eq_1 _) ZJ (ZA @Wd.eq_1 (ZA @OZ.eq_1 (ZA @OQ.eq_1 (ZA @V91.eq_1 @A180.eq_1)))) h⟩
def VR(a:List ByteArray)(b:ByteArray)(v:Int):St:=⟨[(0,.lst .o 1 (a.map AV.z)),(1,.z b),(7,.i (a.length:Int)),(8,.i v)],[]⟩
end Vs

