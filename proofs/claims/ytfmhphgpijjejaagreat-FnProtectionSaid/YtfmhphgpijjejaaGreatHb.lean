/-
  Part of the proof that FnProtection returns true at every input.
-/
import Derived.Test.YtfmhphgpijjejaaGreatHa
set_option linter.defProp false
set_option linter.unusedSimpArgs false
set_option linter.unusedVariables false
open And renaming intro -> A0
open Go.Proofs.Tryz renaming prog -> A1
open Nat renaming reduceEqDiff -> A2, reduceLeDiff -> A3, reduceSub -> A6, reduceMul -> A7, reduceAdd -> A8, reduceLT -> C2
open List renaming map_append -> A5, nodup_cons -> A9, nodup_nil -> B0, length_replicate -> B6, map_set -> B7, length_append -> B8, length_cons -> B9, length_set -> C0, length_nil -> C1
open Go.IntKind renaming wrap -> B1
open Int renaming reduceEq -> B2, reduceNe -> B3, reduceLE -> B4, toNat -> B5
set_option maxHeartbeats 1000000
set_option maxRecDepth 8000
namespace Vs
open Go Go.Proofs
attribute [local irreducible] AWP fd eff wC gC callM
def VT1:=A0 @aC.eq_1<|A0 @ar.eq_1<|A0 @aJ.eq_1<|A0 @ax.eq_1<|A0 @bD.eq_1<|A0 @ai.eq_1<|A0 @aR.eq_1<|A0 @bc.eq_1<|A0 @ch.eq_1<|A0 @hZ.eq_1<|A0 @cW.eq_1<|A0 @ay.eq_1<|(show(∀(x:Value)(f:Nat)(cs:List AV),setPart (.sc x) 0 (.fn f cs)=some (.fn f cs)) from fun _ _ _=>rfl)
def qy(f:Fl)(x:aj)(v:Value)(w:World)(S:Nat->Prop)(B:Nat)(fp:List Nat)(h:aX w S B v (ax f x) fp)(hk:v.cells.size=2):shK 2 v:=JB h hk
def VT2:=A0 @gG<|A0 @tu<|A0 @fV<|A0 @te<|A0 @tF<|A0 @fU<|A0 @lV<|A0 @kN<|A0 @pq<|A0 @gT<|A0 @pJ<|A0 @pu<|A0 @gS<|A0 @jW<|A0 @lJ<|A0 @rf<|A0 @iV<|A0 @sx<|A0 @sX<|A0 @iU<|A0 @kw<|A0 @gF<|A0 @ti<|A0 @gH<|A0 @tV<|A0 @tI<|A0 @gM<|A0 @lU<|A0 @na<|A0 @tS<|A0 @jR<|A0 @tR<|A0 @ua<|A0 @jN<|A0 @lY<|A0 @kH<|A0 @pG<|A0 @im<|A0 @pz<|A0 @pA<|A0 @ie<|A0 @jX<|A0 @lW<|A0 @sY<|A0 @iP<|A0 @rM<|A0 @se<|A0 @iY<|A0 @kP<|A0 @mV<|A0 @tX<|A0 @jT<|A0 @tM<|A0 @tv<|A0 @jA<|A0 @lO<|A0 @jY<|A0 @ov<|A0 @gp<|A0 @og<|A0 @oG<|A0 @gm<|A0 @jb<|A0 @AE<|A0 @HI<|A0 @rd<|A0 @JL<|A0 @Hj<|A0 @rn<|A0 @vh<|A0 @nk<|A0 @tH<|A0 @jI<|A0 @tD<|A0 @tW<|A0 @jP<|A0 @lR<|A0 @lH<|A0 @rO<|A0 @iL<|A0 @sH<|A0 @rC<|A0 @iK<|A0 @kz<|A0 @qW<|A0 @LE<|A0 @Jp<|A0 @GG<|A0 @gW<|A0 @gY<|A0 @qq<|A0 @JP<|A0 @Jm<|A0 @Ps<|A0 @Hh<|A0 @Ur<|A0 @Qr<|A0 @HD<|A0 @Bn<|A0 @Gg<|A0 @GA<|@Jy
def VF1:=A0 @fU<|A0 @lV<|A0 @gS<|A0 @jW<|A0 @iU<|A0 @kw<|A0 @gM<|A0 @lU<|A0 @jN<|A0 @lY<|A0 @ie<|A0 @jX<|A0 @iY<|A0 @kP<|A0 @jA<|A0 @lO<|A0 @gm<|A0 @jb<|A0 @rn<|A0 @vh<|A0 @jP<|A0 @lR<|A0 @iK<|@kz
def VQq1:=A0 @oY<|A0 @fQ<|A0 @pb<|A0 @fT<|A0 @lQ<|A0 @rJ<|A0 @lT<|A0 @rP<|A0 @nL<|A0 @tE<|A0 @nq<|A0 @tG<|A0 @oP<|A0 @jU<|A0 @oL<|A0 @jJ<|A0 @pf<|A0 @xd<|A0 @pg<|A0 @wD<|A0 @lI<|A0 @rG<|A0 @lK<|A0 @sg<|A0 @ni<|A0 @tj<|A0 @mB<|A0 @tZ<|A0 @pi<|A0 @wP<|A0 @oQ<|A0 @vU<|A0 @kf<|A0 @pB<|A0 @kK<|A0 @pE<|A0 @FK<|A0 @Rs<|A0 @FZ<|A0 @Qo<|A0 @oX<|A0 @vL<|A0 @oH<|A0 @xj<|A0 @ng<|A0 @tp<|A0 @nr<|@tC
theorem VE1:aC .o=aC .u/\aC .m=aC .u/\aC .s=aC .u/\aJ .o=aJ .u/\aJ .m=aJ .u/\aJ .s=aJ .u/\bD .o=bD .u/\bD .m=bD .u/\bD .s=bD .u/\aR .o=aR .u/\aR .m=aR .u/\aR .s=aR .u:=⟨rfl,rfl,rfl,rfl,rfl,rfl,rfl,rfl,rfl,rfl,rfl,rfl⟩
def Zr{α:Type}(n:Nat)(a:α):(List.replicate n a).length=n:=B6
def ZA{A B:Prop}(a:A)(b:B):A/\B:=⟨a,b⟩
def ZF{A:Prop}(a:A){P Q:Prop}(k:Q)(e:A->P=Q:=by intro a;simp only[VS1,VS2,VS3,VS4,VS5,VS6,VT1,VT2,bB,bz,decide_true,decide_false,B0,A9,dS,dV,dN,ne_eq,not_false_eq_true,B2,B3,true_and,false_and,A6,A7,↓reduceIte,reduceCtorEq,A2,A8,A3,B4,a];exact Eq.refl _):P:=(e a).mpr k
def ZG{P Q:Prop}(k:Q)(e:P=Q:=by simp only[VA,VF1,↓reduceIte,A2,A8,A7,A6,A3];exact Eq.refl _):P:=e.mpr k
def ZL{A:Prop}(a:A){B:Prop}(b:B){P:Prop}(e:A->B->P:=by intro a b;(try simp only[VS1,VS2,VS3,VS4,VS5,VS6,VT1,VT2,bB,bz,decide_true,decide_false,B0,A9,dS,dV,dN,ne_eq,not_false_eq_true,B2,B3,true_and,false_and,A6,A7,↓reduceIte,reduceCtorEq,A2,A8,A3,B4,a]);all_goals first|(simp[qL,qJ,qJ0,qS,qX,qR,qM,Shp,sub,ir,bB,bz,VS1,VS2,VS3,VS4,VS5,VS6,VT1,VT2,b];done)|(simp[qL,qJ,qJ0,qS,qX,qR,qM,Shp,sub,ir,bB,bz,VS1,VS2,VS3,VS4,VS5,VS6,VT1,VT2,VE1,b];done)|simp[qL,qJ,qJ0,qS,qX,qR,qM,Shp,sub,ir,bB,bz,VS1,VS2,VS3,VS4,VS5,VS6,VT1,VT2,VE1,a,b]):P:=e a b
def ZK{B:Prop}(b:B){P:Prop}(e:B->P:=by intro b;simp[qL,qJ,qJ0,qS,qX,qR,qM,Shp,sub,ir,bB,bz,VS1,VS2,VS3,VS4,VS5,VS6,VT1,VT2,b]):P:=e b
def ZS{A:Prop}(a:A){W:Prop}(w:W){ok:Oks}{ρ:Nat->Option Row}{d f:Nat}{args:List AV}{K:AV->List (Nat×Row)->Prop}{v:Value}(hk:K (.sc v) [])
 (e:A->W->ok.p f (args.map (snp ρ 4)) (.sc v):=by intro a w;simp only[VS1,VS2,VS3,VS4,VS5,VS6,VT1,VT2,bB,bz,decide_true,decide_false,B0,A9,dS,dV,dN,ne_eq,not_false_eq_true,B2,B3,true_and,false_and,A6,A7,↓reduceIte,reduceCtorEq,A2,A8,A3,B4,a];exact w):gC ok ρ d f args K:=Pb (e a w) hk
def ZU{A:Prop}(a:A){W:Prop}(w:W){ok:Oks}{ρ:Nat->Option Row}{d f:Nat}{args:List AV}{K:AV->List (Nat×Row)->Prop}{res:AV}(hk:K (adopt 4 d res).1 (adopt 4 d res).2.1)
 (e:A->W->ok.p f (args.map (snp ρ 4)) res:=by intro a w;simp only[VS1,VS2,VS3,VS4,VS5,VS6,VT1,VT2,bB,bz,decide_true,decide_false,B0,A9,dS,dV,dN,ne_eq,not_false_eq_true,B2,B3,true_and,false_and,A6,A7,↓reduceIte,reduceCtorEq,A2,A8,A3,B4,a];exact w) (hu:res.allU:=by simp[AV.allU,kF,vd,VT1,VT2]) (hn:∀p∈(adopt 4 d res).2.1,ρ p.1=none/\p.1<1000000000:=by simp only[VS1,VS2,VS3,VS4,VS5,VS6,VT1,VT2,bB,bz,decide_true,decide_false,B0,A9,dS,dV,dN,ne_eq,not_false_eq_true,B2,B3,true_and,false_and,A6,A7,↓reduceIte,reduceCtorEq,A2,A8,A3,B4,C2]):gC ok ρ d f args K:=NV (e a w) hu hn hk
def ZQ{P:Prop}(e:P:=by simp[VS1,VS2,VS3,VS4,VS5,VS6,VT1,VT2]):P:=e
def ZW{A:Prop}(a:A){W:Prop}(w:W){ok:Oks}{ρ:Nat->Option Row}{d f:Nat}{args:List AV}{rs:List Nat}{K:AV->List (Nat×Row)->Prop}{res:AV}{outs:List (Nat×Row)}
 (e:A->W->ok.m f (args.map (AV.rg (cnm rs))) (rs.map (gV ρ rs)) res outs:=by intro a w;simp only[VS1,VS2,VS3,VS4,VS5,VS6,VT1,VT2,bB,bz,decide_true,decide_false,B0,A9,dS,dV,dN,ne_eq,not_false_eq_true,B2,B3,true_and,false_and,A6,A7,↓reduceIte,reduceCtorEq,A2,A8,A3,B4,a];first|exact w|(simp only[VS1,VS2,VS3,VS4,VS5,VS6,VT1,VT2,bB,bz,decide_true,decide_false,B0,A9,dS,dV,dN,ne_eq,not_false_eq_true,B2,B3,true_and,false_and,A6,A7,↓reduceIte,reduceCtorEq,A2,A8,A3,B4,a] at w;exact w))
 (h1:rs.Nodup/\(∀r∈rs,cR (ρ r))/\(∀r∈rs,∀q∈mc (ρ r),q∈rs)/\(∀r∈aP args,r∈rs):=by simp[VS1,VS2,VS3,VS4,VS5,VS6,VT1,VT2])
 (h2:(outs.map fun p=>bkn d rs p.1).Nodup/\(∀p∈outs,1000000000<=p.1->p.1-1000000000<rs.length)/\(∀p∈outs,p.1<1000000000->ρ (bkn d rs p.1)=none/\bkn d rs p.1<1000000000))
 (hk:K (res.rg (bkn d rs)) (bP rs++outs.map (fS d rs))):callM ok ρ d f args rs K:=nW (e a w) h1 h2 hk
def NmK(ns ks:List Nat)(P:Prop):Prop:=P
def nmK{ns ks:List Nat}{P:Prop}(p:P):NmK ns ks P:=p
def ZSG{A:Prop}(a:A){W:Prop}(w:W){ok:Oks}{ρ:Nat->Option Row}{d f:Nat}{args:List AV}{K:AV->List (Nat×Row)->Prop}{v:Value}{Q:Prop}(k:Q)
 (e:A->W->ok.p f (args.map (snp ρ 4)) (.sc v):=by intro a w;simp only[VS1,VS2,VS3,VS4,VS5,VS6,VT1,VT2,bB,bz,decide_true,decide_false,B0,A9,dS,dV,dN,ne_eq,not_false_eq_true,B2,B3,true_and,false_and,A6,A7,↓reduceIte,reduceCtorEq,A2,A8,A3,B4,a];exact w) (g:K (.sc v) []=Q:=by simp only[VA,VF1,↓reduceIte,A2,A8,A7,A6,A3];exact Eq.refl _):gC ok ρ d f args K:=Pb (e a w) (g.mpr k)
def ZUG{A:Prop}(a:A){W:Prop}(w:W){ok:Oks}{ρ:Nat->Option Row}{d f:Nat}{args:List AV}{K:AV->List (Nat×Row)->Prop}{res:AV}{Q:Prop}(k:Q)
 (e:A->W->ok.p f (args.map (snp ρ 4)) res:=by intro a w;simp only[VS1,VS2,VS3,VS4,VS5,VS6,VT1,VT2,bB,bz,decide_true,decide_false,B0,A9,dS,dV,dN,ne_eq,not_false_eq_true,B2,B3,true_and,false_and,A6,A7,↓reduceIte,reduceCtorEq,A2,A8,A3,B4,a];exact w) (hu:res.allU:=by simp[AV.allU,kF,vd,VT1,VT2]) (hn:∀p∈(adopt 4 d res).2.1,ρ p.1=none/\p.1<1000000000:=by simp only[VS1,VS2,VS3,VS4,VS5,VS6,VT1,VT2,bB,bz,decide_true,decide_false,B0,A9,dS,dV,dN,ne_eq,not_false_eq_true,B2,B3,true_and,false_and,A6,A7,↓reduceIte,reduceCtorEq,A2,A8,A3,B4,C2]) (g:K (adopt 4 d res).1 (adopt 4 d res).2.1=Q:=by simp only[VA,VF1,↓reduceIte,A2,A8,A7,A6,A3];exact Eq.refl _):gC ok ρ d f args K:=NV (e a w) hu hn (g.mpr k)
def NM1{ρ:Nat->Option Row}{d:Nat}{rs:List Nat}{outs:List (Nat×Row)}{ns ks:List Nat}(hn:outs.map (·.1)=ns)(h:acp rs ns=true):
 NmK ns ks ((outs.map fun p=>bkn d rs p.1).Nodup/\(∀p∈outs,1000000000<=p.1->p.1-1000000000<rs.length)/\(∀p∈outs,p.1<1000000000->ρ (bkn d rs p.1)=none/\bkn d rs p.1<1000000000)):=KM ns hn h
def NM2{ρ:Nat->Option Row}{d:Nat}{rs:List Nat}{outs:List (Nat×Row)}{ns ks:List Nat}(hn:outs.map (·.1)=ns)(h:QY d rs ns ks=true)(hk:∀q∈ks,ρ q=none):
 NmK ns ks ((outs.map fun p=>bkn d rs p.1).Nodup/\(∀p∈outs,1000000000<=p.1->p.1-1000000000<rs.length)/\(∀p∈outs,p.1<1000000000->ρ (bkn d rs p.1)=none/\bkn d rs p.1<1000000000)):=PS ns ks hn h hk
def ZWG{A:Prop}(a:A){W:Prop}(w:W)(ns ks:List Nat){Q:Prop}(k:Q){ok:Oks}{ρ:Nat->Option Row}{d f:Nat}{args:List AV}{rs:List Nat}{K:AV->List (Nat×Row)->Prop}{res:AV}{outs:List (Nat×Row)}
 (e:A->W->ok.m f (args.map (AV.rg (cnm rs))) (rs.map (gV ρ rs)) res outs:=by intro a w;simp only[VS1,VS2,VS3,VS4,VS5,VS6,VT1,VT2,bB,bz,decide_true,decide_false,B0,A9,dS,dV,dN,ne_eq,not_false_eq_true,B2,B3,true_and,false_and,A6,A7,↓reduceIte,reduceCtorEq,A2,A8,A3,B4,a];first|exact w|(simp only[VS1,VS2,VS3,VS4,VS5,VS6,VT1,VT2,bB,bz,decide_true,decide_false,B0,A9,dS,dV,dN,ne_eq,not_false_eq_true,B2,B3,true_and,false_and,A6,A7,↓reduceIte,reduceCtorEq,A2,A8,A3,B4,a] at w;exact w))
 (h1:rs.Nodup/\(∀r∈rs,cR (ρ r))/\(∀r∈rs,∀q∈mc (ρ r),q∈rs)/\(∀r∈aP args,r∈rs):=by simp[VS1,VS2,VS3,VS4,VS5,VS6,VT1,VT2])
 (h2:NmK ns ks ((outs.map fun p=>bkn d rs p.1).Nodup/\(∀p∈outs,1000000000<=p.1->p.1-1000000000<rs.length)/\(∀p∈outs,p.1<1000000000->ρ (bkn d rs p.1)=none/\bkn d rs p.1<1000000000)):=by first|exact NM1 rfl (by decide+kernel)|exact NM2 rfl (by decide+kernel) ZQ|exact nmK ZQ)
 (g:K (res.rg (bkn d rs)) (bP rs++outs.map (fS d rs))=Q:=by simp only[VA,VF1,↓reduceIte,A2,A8,A7,A6,A3];exact Eq.refl _):callM ok ρ d f args rs K:=nW (e a w) h1 h2 (g.mpr k)
class CW {R:Type} (m:Option R) (C:outParam (R->Prop)):Prop where w:∀r,m=some r->C r
class CL {S B:Type} (f:S->Option (S⊕B)) (A:outParam au) (lv lr:outParam (List Nat)) (sh:outParam (S->St)) (q:outParam (B->Ex->St->Prop)):Prop where
 w:∀s o,f s=some o->AWP (OkS A1) A (qL lv lr sh q o) (sh s)
class CX {S B:Type} (f:S->Option (S⊕B)) (A:outParam au) (lv lr:outParam (List Nat)) (X:outParam Type) (sh:outParam (X->S->St)) (q:outParam (X->B->Ex->St->Prop)):Prop where
 w:∀x s o,f s=some o->AWP (OkS A1) A (qL lv lr (sh x) (q x) o) (sh x s)
def ahk{F:Prop}{α:Type}{c:Bool}{x y z:α}(f:F)(h:cond c x y=z):((F/\c=true)/\x=z)\/((F/\c=false)/\y=z):=(aw h).imp (fun a=>⟨⟨f,a.1⟩,a.2⟩) (fun a=>⟨⟨f,a.1⟩,a.2⟩)
def aiq{F:Prop}{α β:Type}{c:Bool}{x y:Option α}{k:α->Option β}{z:Option β}(f:F)(h:(cond c x y).bind k=z):((F/\c=true)/\x.bind k=z)\/((F/\c=false)/\y.bind k=z):=by
 cases c
 ·exact .inr ⟨⟨f,rfl⟩,h⟩
 ·exact .inl ⟨⟨f,rfl⟩,h⟩
def aho{α β:Type}{a:α}{k:α->Option β}{z:Option β}(h:(some a).bind k=z):k a=z:=h
def ait{α β γ:Type}{m:Option α}{k:α->Option β}{l:β->Option γ}{z:Option γ}(h:(m.bind k).bind l=z):m.bind (fun x=>(k x).bind l)=z:=by rw[<-Option.bind_assoc];exact h
def ajc{α β:Type}{a:α}{k:α->Option β}{z:Option β}(h:bnd a k=z):k a=z:=h
def ajl{F:Prop}{α β:Type}{xs:List α}{o n:Nat}{k:List α->Option β}{r:β}(f:F)(h:bnd (cY xs o n) k=some r):∃l,(F/\∀e:α->AV,sub (xs.map e) o n=l.map e)/\k l=some r:=⟨_,⟨f,fun e=>bN ..⟩,h⟩
def ajm{p:Prop}[Decidable p]{β:Type}{k:Unit->Option β}{r:β}(h:(grd p).bind k=some r):p/\k ()=some r:=
 let⟨_,a,b⟩:=ah h;⟨aY a,b⟩
def aht{F p:Prop}[Decidable p]{β:Type}{k:Unit->Option β}{r:β}(f:F)(h:(grd p).bind k=some r):(F/\p)/\k ()=some r:=
 let⟨_,a,b⟩:=ah h;⟨⟨f,aY a⟩,b⟩
def aie{F:Prop}{α β:Type}{xs:List α}{i:Nat}{k:α->Option β}{r:β}(f:F)(h:(xs[i]?).bind k=some r):∃x,(F/\xs[i]?=some x)/\k x=some r:=
 let⟨x,a,b⟩:=ah h;⟨x,⟨f,a⟩,b⟩
def ais{F:Prop}{α β:Type}{xs:List α}{i:Int}{k:α->Option β}{r:β}(f:F)(h:(bC xs i).bind k=some r):∃x,(F/\0<=i/\xs[i.toNat]?=some x)/\k x=some r:=
 let⟨x,a,b⟩:=ah h;⟨x,⟨f,cg a⟩,b⟩
def ail{F:Prop}{β:Type}{xs:ByteArray}{i:Int}{k:UInt8->Option β}{r:β}(f:F)(h:(wA xs i).bind k=some r):∃x,(F/\0<=i/\xs[i.toNat]?=some x)/\k x=some r:=
 let⟨x,a,b⟩:=ah h;⟨x,⟨f,rX a⟩,b⟩
def ahy{F:Prop}{α β:Type}{xs:List α}{hi:Int}{k:List α->Option β}{r:β}(f:F)(h:(slT xs hi).bind k=some r):∃ys,(F/\0<=hi/\hi.toNat<=xs.length/\∀e:α->AV,sub (xs.map e) 0 hi.toNat=ys.map e)/\k ys=some r:=
 let⟨x,a,b⟩:=ah h;let q:=zN (fun _=>AV.top) a;⟨x,⟨f,q.2.1,q.2.2.2.1,fun e=>(zN e a).2.2.2.2⟩,b⟩
def aib{α β:Type}{m:Option α}{C:α->Prop}[CW m C]{k:α->Option β}{r:β}(h:m.bind k=some r):∃x,C x/\k x=some r:=
 let⟨x,a,b⟩:=ah h;⟨x,CW.w x a,b⟩
def ajh{α:Type}{x y z:α}(h:cond true x y=z):x=z:=h
def aig{α:Type}{x y z:α}(h:cond false x y=z):y=z:=h
def ahv{α:Type}{x y z:α}(h:cond (!true) x y=z):y=z:=h
def aic{α:Type}{x y z:α}(h:cond (!false) x y=z):x=z:=h
def jn(ok:Oks)(lv lr:List Nat)(b:au)(Q:Ex->St->Prop):Ex->St->Prop
 | .nrm,τ=>τ.resOk lv lr/\AWP ok b Q (τ.res lv lr)
 | .ex i,τ=>Q (.ex i) τ
 | .ret,τ=>Q .ret τ
def ZJ:(∀(ok:Oks)(Q:Ex->St->Prop)(σ:St)(a:au)(lv lr:List Nat)(b:au),AWP ok (.seqr a lv lr b) Q σ=AWP ok a (jn ok lv lr b Q) σ)/\
 (∀(ok:Oks)(lv lr:List Nat)(b:au)(Q:Ex->St->Prop)(τ:St),jn ok lv lr b Q .nrm τ=(τ.resOk lv lr/\AWP ok b Q (τ.res lv lr)))/\
 (∀(ok:Oks)(lv lr:List Nat)(b:au)(Q:Ex->St->Prop)(i:Nat)(τ:St),jn ok lv lr b Q (.ex i) τ=Q (.ex i) τ)/\
 (∀(ok:Oks)(lv lr:List Nat)(b:au)(Q:Ex->St->Prop)(τ:St),jn ok lv lr b Q .ret τ=Q .ret τ):=
 ⟨fun ok Q σ a lv lr b=>by
  simp only[AWP];congr 1;funext e τ;cases e<;>rfl,fun _ _ _ _ _ _=>rfl,fun _ _ _ _ _ _ _=>rfl,fun _ _ _ _ _ _=>rfl⟩
def ZJB:=A0 ZJ<|A0 @A5.{0,0}<|A0 @B7.{0,0}<|A0 @List.map_replicate.{0,0}<|A0 @List.map_cons.{0,0}<|A0 @List.map_nil.{0,0}<|A0 @B8.{0}<|A0 @C0.{0}<|A0 @B6.{0}<|A0 @B9.{0} @C1.{0}
def ajo{S B:Type}{f:S->Option (S⊕B)}{A C:au}{lv lr lv' lr':List Nat}{sh:S->St}{sh':B->St}{id n:Nat}[CL f A lv lr sh (qX id lv' lr' sh')]{s0:S}{b:B}{σ:St}{Q:Ex->St->Prop}(g:aZ f n s0=some b)
 (hs:Shp lv lr sh s0 σ) (k:AWP (OkS A1) C Q (sh' b)):AWP (OkS A1) (.loop A) (inb id (jn (OkS A1) lv' lr' C Q)) σ:=
 bO _ (aN CL.w g hs) fun e τ h=>by
  obtain⟨rfl,h1,h2⟩:=h;simp only[inb,if_true,jn];exact⟨h1,h2▸k⟩
def ajq{S B R:Type}{f:S->Option (S⊕(B⊕R))}{A C:au}{lv lr lv' lr':List Nat}{sh:S->St}{sh':B->St}{q:R->Ex->St->Prop}{id n:Nat}[CL f A lv lr sh (qS (qX id lv' lr' sh') q)]{s0:S}{b:B}{σ:St}{Q:Ex->St->Prop}(g:aZ f n s0=some (.inl b))
 (hs:Shp lv lr sh s0 σ) (k:AWP (OkS A1) C Q (sh' b)):AWP (OkS A1) (.loop A) (inb id (jn (OkS A1) lv' lr' C Q)) σ:=
 bO _ (aN CL.w g hs) fun e τ h=>by
  obtain⟨rfl,h1,h2⟩:=h;simp only[inb,if_true,jn];exact⟨h1,h2▸k⟩
def aiu{S B R:Type}{f:S->Option (S⊕(B⊕R))}{A:au}{lv lr:List Nat}{sh:S->St}{q':B->Ex->St->Prop}{V:List RV}{emb:R->AV}{id n:Nat}[CL f A lv lr sh (qS q' (qR V emb))]{s0:S}{b:R}{σ:St}{Q:Ex->St->Prop}(g:aZ f n s0=some (.inr b))
 (hs:Shp lv lr sh s0 σ) (k:∀τ,fin V (emb b) .ret τ->inb id Q .ret τ):AWP (OkS A1) (.loop A) (inb id Q) σ:=
 bO _ (aN CL.w g hs) fun e τ h=>by
  obtain⟨rfl,h⟩:=h;exact k τ h
def ajs{S B X:Type}{f:S->Option (S⊕B)}{A C:au}{lv lr lv' lr':List Nat}{sh:X->S->St}{sh':X->B->St}{id n:Nat}[CX f A lv lr X sh (fun x=>qX id lv' lr' (sh' x))]{x:X}{s0:S}{b:B}{σ:St}{Q:Ex->St->Prop}(g:aZ f n s0=some b)
 (hs:Shp lv lr (sh x) s0 σ) (k:AWP (OkS A1) C Q (sh' x b)):AWP (OkS A1) (.loop A) (inb id (jn (OkS A1) lv' lr' C Q)) σ:=
 bO _ (aN (CX.w x) g hs) fun e τ h=>by
  obtain⟨rfl,h1,h2⟩:=h;simp only[inb,if_true,jn];exact⟨h1,h2▸k⟩
def ain{S B R X:Type}{f:S->Option (S⊕(B⊕R))}{A C:au}{lv lr lv' lr':List Nat}{sh:X->S->St}{sh':X->B->St}{q:X->R->Ex->St->Prop}{id n:Nat}[CX f A lv lr X sh (fun x=>qS (qX id lv' lr' (sh' x)) (q x))]{x:X}{s0:S}{b:B}{σ:St}{Q:Ex->St->Prop}(g:aZ f n s0=some (.inl b))
 (hs:Shp lv lr (sh x) s0 σ) (k:AWP (OkS A1) C Q (sh' x b)):AWP (OkS A1) (.loop A) (inb id (jn (OkS A1) lv' lr' C Q)) σ:=
 bO _ (aN (CX.w x) g hs) fun e τ h=>by
  obtain⟨rfl,h1,h2⟩:=h;simp only[inb,if_true,jn];exact⟨h1,h2▸k⟩
def aim{S B R X:Type}{f:S->Option (S⊕(B⊕R))}{A:au}{lv lr:List Nat}{sh:X->S->St}{q':X->B->Ex->St->Prop}{V:List RV}{emb:X->R->AV}{id n:Nat}[CX f A lv lr X sh (fun x=>qS (q' x) (qR V (emb x)))]{x:X}{s0:S}{b:R}{σ:St}{Q:Ex->St->Prop}(g:aZ f n s0=some (.inr b))
 (hs:Shp lv lr (sh x) s0 σ) (k:∀τ,fin V (emb x b) .ret τ->inb id Q .ret τ):AWP (OkS A1) (.loop A) (inb id Q) σ:=
 bO _ (aN (CX.w x) g hs) fun e τ h=>by
  obtain⟨rfl,h⟩:=h;exact k τ h
def ZWT{A:Prop}(a:A){W:Prop}(w:W){Q:Prop}(k:Q){ok:Oks}{ρ:Nat->Option Row}{d f:Nat}{args:List AV}{rs:List Nat}{K:AV->List (Nat×Row)->Prop}{res:AV}{outs:List (Nat×Row)}
 (e:A->W->ok.m f (args.map (AV.rg (cnm rs))) (rs.map (gV ρ rs)) res outs:=by intro a w;simp only[VS1,VS2,VS3,VS4,VS5,VS6,VT1,VT2,bB,bz,decide_true,decide_false,B0,A9,dS,dV,dN,ne_eq,not_false_eq_true,B2,B3,true_and,false_and,A6,A7,↓reduceIte,reduceCtorEq,A2,A8,A3,B4,a];first|exact w|(simp only[VS1,VS2,VS3,VS4,VS5,VS6,VT1,VT2,bB,bz,decide_true,decide_false,B0,A9,dS,dV,dN,ne_eq,not_false_eq_true,B2,B3,true_and,false_and,A6,A7,↓reduceIte,reduceCtorEq,A2,A8,A3,B4,a] at w;exact w))
 (h1:rs.Nodup/\(∀r∈rs,cR (ρ r))/\(∀r∈rs,∀q∈mc (ρ r),q∈rs)/\(∀r∈aP args,r∈rs):=by simp[VS1,VS2,VS3,VS4,VS5,VS6,VT1,VT2])
 (h2:(outs.map fun p=>bkn d rs p.1).Nodup/\(∀p∈outs,1000000000<=p.1->p.1-1000000000<rs.length)/\(∀p∈outs,p.1<1000000000->ρ (bkn d rs p.1)=none/\bkn d rs p.1<1000000000):=by first|exact NM1 (ks:=[]) rfl (by decide+kernel)|exact ZQ)
 (g:K (res.rg (bkn d rs)) (bP rs++outs.map (fS d rs))=Q:=by simp only[VA,VF1,↓reduceIte,A2,A8,A7,A6,A3];exact Eq.refl _):callM ok ρ d f args rs K:=nW (e a w) h1 h2 (g.mpr k)
def ZT{F E:Prop}(f:F)(e:E){H:Prop}(h:H){P:Prop}(t:F->E->H->P:=by
 intro f e h
 repeat' (first
  |(with_reducible replace h:=aho h)
  |(with_reducible replace h:=ait h)
  |(with_reducible obtain⟨x,f,h⟩:=ajl f h)
  |(with_reducible replace h:=ajc h)
  |(with_reducible replace h:=ajh h)
  |(with_reducible replace h:=aig h)
  |(with_reducible replace h:=ahv h)
  |(with_reducible replace h:=aic h)
  |(with_reducible obtain⟨f,h⟩|⟨f,h⟩:=ahk f h)
  |(with_reducible obtain⟨f,h⟩|⟨f,h⟩:=aiq f h)
  |((with_reducible obtain⟨q,h⟩:=ajm h);(try simp only[B8,B9,C1,C0,B6,Nat.zero_add] at q);replace f:=ZA f q)
  |(with_reducible obtain⟨f,h⟩:=aht f h)
  |(with_reducible obtain⟨x,f,h⟩:=aie f h)
  |(with_reducible obtain⟨x,f,h⟩:=ais f h)
  |(with_reducible obtain⟨x,f,h⟩:=ail f h)
  |(with_reducible obtain⟨x,f,h⟩:=ahy f h)
  |((with_reducible obtain⟨x,w,h⟩:=aib h);refine ZF f ?_;(repeat (refine⟨ZK trivial,?_⟩;(try simp only[ZC,e]);refine ZF f ?_));first|refine ZSG f w ?_|refine ZUG f w ?_|refine ZWT f w ?_)
  |(cases h;exact ZL f (ZA ZC e))
  |((with_reducible obtain⟨x,w,h⟩:=ah h);(try refine ZF f ?_);(repeat (refine⟨ZK trivial,?_⟩;(try simp only[ZC,e]);(try refine ZF f ?_)));first
   |((first|refine ajo w (ZK e) ?_|refine ajs (x:=by assumption) w (ZK e) ?_);simp only[ZC,e])
   |(rcases x with x|x;rotate_left;(first|refine aiu w (ZK e) ?_|refine aim (x:=by assumption) w (ZK e) ?_);simp only[] at h;intro τ q;cases h;(first|exact q|(simp[inb,thn,jn];exact q));(first|refine ajq w (ZK e) ?_|refine ain (x:=by assumption) w (ZK e) ?_);simp only[ZC,e];simp only[] at h)))):P:=t f e h
theorem ZO{R:Type}{m b:Option R}{r:R}{f k:Nat}{A:au}{V:List RV}{args:List AV}{res:AV}{E F:Prop}(hm:ba A1 f k A V=true)(u:m=b)(f0:F)(e:E)(h:m=some r)(hl:args.length=k:=by rfl)
 (t:F->E->b=some r->WU (OkS A1) A V args res:=by intro f e h;simp only[ZC,e,ca];exact ZT f e h):Ok A1 f args res:=bn bH hm hl (t f0 e (u.symm.trans h))
instance(a:List Int):CW (TM a) (fun(r:Bool)=>Ok A1 10 [.lst .o 1 (a.map AV.u8)] (.b r)):=⟨fun r h=>ZO m10 (TM.eq_1 _) trivial (ZA @V10.eq_1 @A10.eq_1) h⟩
instance(a:aG):CW (Jj a) (fun(r:Int×aG)=>OkM A1 193 [.pt 1000000000 0 0] [(1000000000,.var (bc .o a))] (.i r.1) ([(1000000000,.var (.agg [.lst .o 1 (((r.2).N).map AV.u8),.i ((r.2).F),.sc (.int .u64 ((r.2).L))]))])):=⟨fun r h=>by
 refine aU (lr:=[1000000000]) bH afw rfl rfl ?_;unfold Jj at h;simp only[ZC,Sg,V10];exact ZT ZJ (ZA @V10.eq_1 @xN.eq_1) h⟩
instance(d:Int)(b:aG):CW (M_b d b) (fun(r:Int×aG)=>OkM A1 129 [.pt 1000000000 0 0,.i d] [(1000000000,.var (bc .o b))] (.i r.1) ([(1000000000,.var (.agg [.lst .o 1 (((r.2).N).map AV.u8),.i ((r.2).F),.sc (.int .u64 ((r.2).L))]))])):=⟨fun r h=>by
 refine aU (lr:=[1000000000]) bH acu rfl rfl ?_;unfold M_b at h;simp only[ZC,MX,aK];exact ZT trivial @aK.eq_1 h⟩
instance(c:Int)(a:aG):CW (yY c a) (fun(r:Bool×aG)=>OkM A1 130 [.pt 1000000000 0 0,.i c] [(1000000000,.var (bc .o a))] (.b r.1) ([(1000000000,.var (.agg [.lst .o 1 (((r.2).N).map AV.u8),.i ((r.2).F),.sc (.int .u64 ((r.2).L))]))])):=⟨fun r h=>by
 refine aU (lr:=[1000000000]) bH abz rfl rfl ?_;unfold yY at h;simp only[ZC,Px,aK];exact ZT trivial @aK.eq_1 h⟩
instance(b:Int)(c:Int):CW (IK b c) (fun(r:Int)=>Ok A1 235 [.i b,.i c] (.i r)):=⟨fun r h=>ZO m235 (IK.eq_1 _ _) trivial (ZA @aK.eq_1 @A235.eq_1) h⟩
instance(b:Int)(c:Int):CW (Jc b c) (fun(r:Int)=>Ok A1 236 [.i b,.i c] (.i r)):=⟨fun r h=>ZO m236 (Jc.eq_1 _ _) trivial (ZA @aK.eq_1 @A236.eq_1) h⟩
instance(a:aG)(b:List Int):CW (nF a b) (fun(r:Int×aG×List Int)=>OkM A1 151 [.pt 1000000000 0 0,.sl 1000000001 0 b.length] [(1000000000,.var (bc .o a)),(1000000001,.arr 1 (b.map AV.i))] (.i r.1) ([(1000000000,.var (.agg [.lst .o 1 (((r.2.1).N).map AV.u8),.i ((r.2.1).F),.sc (.int .u64 ((r.2.1).L))])),(1000000001,.arr 1 (r.2.2.map AV.i))])):=⟨fun r h=>by
 refine aU (lr:=[1000000000,1000000001]) bH ags rfl rfl ?_;unfold nF at h;simp only[ZC,OW,aK];exact ZT trivial @aK.eq_1 h⟩
instance(a:aH)(b:aH):CW (zS a b) (fun(r:Int)=>Ok A1 197 [(aC .o a),(aC .o b)] (.i r)):=⟨fun r h=>ZO m197 (zS.eq_1 _ _) trivial (ZA @acf.eq_1 (ZA @aK.eq_1 @acf.eq_1)) h⟩
def Bc(b:List aH)(a:aH)(v:Int):St:=⟨[(0,.lst .o 4 (b.map (aC .o))),(3,.pt 3 0 0),(5,.i v)],[(3,.var (aC .o a))]⟩
instance(a:List aH)(b:aH):CL (Gd a b) wt [0,3,5] [3] (Bc a b) (qX 0 [0,3,5] [3] (Bc a b)):=⟨fun g o h=>by
 unfold Gd at h;simp only[ZC,Bc,wt];exact ZT trivial (ZA @Bc.eq_1 @wt.eq_1) h⟩
instance(g:List aH)(a:aH):CW (Ij g a) (fun(r:List aH)=>Ok A1 234 [.lst .o 4 (g.map (aC .o)),(aC .o a)] (.lst .u 4 (r.map (aC .u)))):=⟨fun r h=>by
 refine bn bH m234 rfl ?_;unfold Ij at h;simp only[ZC,A234,aK,ca];obtain⟨w1,x,h⟩:=ah h;try refine ZF trivial ?_
 refine aF (bf (aN CL.w x ?_)) ?_
 ·exact ZK (ZA @Bc.eq_1 @Bc.eq_1)
 ·simp only[ZC,Bc,Nh];obtain⟨l,y,h⟩:=ah h;obtain⟨z,a1,b1,c1,d1⟩:=zN (aC .o) y;obtain⟨y1,g1,h⟩:=ah h;obtain⟨j,b,h⟩:=bb h;have i1:Row.arr 4 [(.agg [.i a.A,.i a.B,.i a.N,.i a.F]:AV)]=Row.arr 4 (j.map (aC .u)):=by rw[<-b];rfl
  have m:j.length=1:=by rw[<-b];rfl
  obtain⟨z1,j1,h⟩:=ah h;have p:=aY j1;obtain⟨c,d,h⟩:=bb h;have k1:l.map (aC .o)++j.map (aC .o)=c.map (aC .o):=by rw[<-d,A5]
  have q:l.length+1=c.length:=by simp[<-b,<-d]<;>omega
  rw[q] at p;obtain⟨s,l1,h⟩:=ah h;obtain⟨m1,p1,q1,s1,t1⟩:=ahn (aC .o) l1;obtain⟨a2,u1,h⟩:=ah h;have t:=aY u1;obtain⟨v,k,h⟩:=bb h;have v1:c.map (aC .o)++s.map (aC .o)=v.map (aC .o):=by rw[<-k,A5]
  have w:c.length+s.length=v.length:=by simp[<-b,<-d,<-k]<;>omega
  rw[w] at t;cases h;exact ZL (ZA z (ZA a1 (ZA b1 (ZA c1 (ZA d1 (ZA (aY g1) (ZA i1 (ZA m (ZA p (ZA k1 (ZA q (ZA m1 (ZA p1 (ZA q1 (ZA s1 (ZA t1 (ZA t (ZA v1 w)))))))))))))))))) (ZA @aK.eq_1 (ZA b.symm (ZA d.symm (ZA k.symm m))))⟩
def UB(a:Int×aG)(b:List ByteArray)(v:Int×List aH×aG):St:=⟨[(0,.pt 1000000000 0 0),(2,.pt 2 0 0),(3,.i (B1 .i64 (2+a.1))),(4,.pt 4 0 0),(5,.i v.1)],[(2,.var (.agg [.lst .u 1 [],.lst .u 4 []])),(4,.var (.agg [.sl 500000256 0 (B5 (B1 .i64 (2+a.1))),.sl 500000257 0 v.2.1.length])),(500000256,.arr 1 (b.map AV.z)),(500000257,.arr 4 (v.2.1.map (aC .u))),(1000000000,.var (bc .o v.2.2))]⟩
def Es(a:Int×aG)(b:List ByteArray)(v:List aH×aG):St:=⟨[(0,.pt 1000000000 0 0),(2,.pt 2 0 0),(3,.i (B1 .i64 (2+a.1))),(4,.pt 4 0 0)],[(2,.var (.agg [.lst .u 1 [],.lst .u 4 []])),(4,.var (.agg [.sl 500000256 0 (B5 (B1 .i64 (2+a.1))),.sl 500000257 0 v.1.length])),(500000256,.arr 1 (b.map AV.z)),(500000257,.arr 4 (v.1.map (aC .u))),(1000000000,.var (bc .o v.2))]⟩
instance(a:Int×aG):CX (Cq a) sd [0,2,3,4,5] [2,4,500000256,500000257,1000000000] (List ByteArray) (fun d=>(UB a d)) (fun d=>(qX 0 [0,2,3,4] [2,4,500000256,500000257,1000000000] (Es a d))):=⟨fun d c o h=>by
 have e:=ZA @UB.eq_1 @Es.eq_1;unfold Cq at h;simp only[ZC,UB,sd];obtain⟨g,h⟩|⟨g,h⟩:=aw h
 ·obtain⟨i1,q,h⟩:=ah h;obtain⟨t,w,h⟩:=ah h;have f:=ZA g (aY q);try refine ZF f ?_
  refine aF (sh:=(fun v=>⟨[(0,.pt 1000000000 0 0),(2,.pt 2 0 0),(3,.i (B1 .i64 (2+a.1))),(4,.pt 4 0 0),(5,.i c.1),(6,.i (Int.tmod (B1 .i64 (c.1+1)) (B1 .i64 (2+a.1)))),(32,.b v.1)],[(2,.var (.agg [.lst .u 1 [],.lst .u 4 []])),(4,.var (.agg [.sl 500000256 0 (B5 (B1 .i64 (2+a.1))),.sl 500000257 0 c.2.1.length])),(500000256,.arr 1 (d.map AV.z)),(500000257,.arr 4 (c.2.1.map (aC .u))),(1000000000,.var (bc .o v.2))]⟩)) (s:=t) ?_ ?_
  ·replace h:=w;obtain⟨j,h⟩|⟨j,h⟩:=aw h
   ·cases h;exact ZL (ZA f j) trivial
   ·obtain⟨j1,x,h⟩:=ah h;have f:=ZA f j;refine ZF f ?_;refine ZWG f (CW.w _ x) [1000000000] [] ?_;cases h;exact ZL f trivial
  ·simp only[ZC,AD];obtain⟨k,h⟩|⟨k,h⟩:=aw h
   ·cases h;exact ZL (ZA f k) e
   ·obtain⟨k1,y,h⟩:=ah h;have f:=ZA f k;refine ZF f ?_;refine ZSG f (CW.w _ y) ?_;obtain⟨l1,a1,h⟩:=ah h;refine ZF f ?_;refine ZSG f (CW.w _ a1) ?_;obtain⟨m1,b1,h⟩:=ah h;refine ZF f ?_;refine ZWG f (CW.w _ b1) [1000000000] [] ?_;obtain⟨m,l,h⟩:=bb h;have c1:Row.arr 1 [(.i 0:AV),(.i 0:AV),(.i 0:AV),(.i 1:AV),(.i 2:AV)]=Row.arr 1 (m.map AV.i):=by rw[<-l];rfl
    have p:m.length=5:=by rw[<-l];rfl
    obtain⟨p1,d1,h⟩:=ah h;have f:=ZA f (ZA c1 p);refine ZF f ?_;refine ZWG f (CW.w _ d1) [1000000000,1000000001] [] ?_;obtain⟨q1,g1,h⟩:=ah h;refine ZF f ?_;refine ZUG f (CW.w _ g1) ?_;cases h;exact ZL f (ZA e (ZA l.symm p))
 ·cases h;exact ZL g e⟩
def Vp(a:Int×aG)(b:List ByteArray)(v:Int×List aH×aG):St:=⟨[(0,.pt 1000000000 0 0),(2,.pt 2 0 0),(3,.i (B1 .i64 (2+a.1))),(4,.pt 4 0 0),(7,.i v.1)],[(2,.var (.agg [.lst .u 1 [],.lst .u 4 []])),(4,.var (.agg [.sl 500000256 0 (B5 (B1 .i64 (2+a.1))),.sl 500000257 0 v.2.1.length])),(500000256,.arr 1 (b.map AV.z)),(500000257,.arr 4 (v.2.1.map (aC .u))),(1000000000,.var (bc .o v.2.2))]⟩
def Ew(a:Int×aG)(b:List ByteArray)(v:List aH×aG):St:=⟨[(2,.pt 2 0 0),(4,.pt 4 0 0)],[(2,.var (.agg [.lst .u 1 [],.lst .u 4 []])),(4,.var (.agg [.sl 500000256 0 (B5 (B1 .i64 (2+a.1))),.sl 500000257 0 v.1.length])),(500000256,.arr 1 (b.map AV.z)),(500000257,.arr 4 (v.1.map (aC .u))),(1000000000,.var (bc .o v.2))]⟩
instance(b:Int×aG):CX (BT b) sD [0,2,3,4,7] [2,4,500000256,500000257,1000000000] (List ByteArray) (fun c=>(Vp b c)) (fun c=>(qX 2 [2,4] [2,4,500000256,500000257,1000000000] (Ew b c))):=⟨fun c j o h=>by
 have e:=ZA @Vp.eq_1 @Ew.eq_1;unfold BT at h;simp only[ZC,Vp,sD];obtain⟨a,h⟩|⟨a,h⟩:=aw h
 ·obtain⟨x,m,h⟩:=ah h;refine ZF a ?_;refine ZWG a (CW.w _ m) [1000000000] [] ?_;obtain⟨y,p,h⟩:=ah h;refine ZF a ?_;refine ZWG a (CW.w _ p) [1000000000] [] ?_;obtain⟨d,h⟩|⟨d,h⟩:=aw h
  ·obtain⟨z,q,h⟩:=ah h;have f:=ZA a d;refine ZF f ?_;refine ZSG f (CW.w _ q) ?_;obtain⟨a1,s,h⟩:=ah h;refine ZF f ?_;refine ZSG f (CW.w _ s) ?_;obtain⟨b1,t,h⟩:=ah h;refine ZF f ?_;refine ZWG f (CW.w _ t) [1000000000] [] ?_;obtain⟨k,g,h⟩:=bb h;have u:Row.arr 1 [(.i 0:AV),(.i 0:AV),(.i 0:AV),(.i 1:AV),(.i 2:AV)]=Row.arr 1 (k.map AV.i):=by rw[<-g];rfl
   have l:k.length=5:=by rw[<-g];rfl
   obtain⟨c1,v,h⟩:=ah h;have f:=ZA f (ZA u l);refine ZF f ?_;refine ZWG f (CW.w _ v) [1000000000,1000000001] [] ?_;obtain⟨d1,w,h⟩:=ah h;refine ZF f ?_;refine ZUG f (CW.w _ w) ?_;cases h;exact ZL f (ZA e (ZA g.symm l))
  ·cases h;exact ZL (ZA a d) e
 ·cases h;exact ZL a e⟩
instance(a:aG):CW (He a) (fun(r:Nat×Nat×List ByteArray×List aH×aG)=>OkM A1 209 [.pt 1000000000 0 0] [(1000000000,.var (bc .o a))] (.agg [.sl 500000128 r.1 r.2.1,.sl 500000129 0 r.2.2.2.1.length]) ([(500000128,.arr 1 (r.2.2.1.map AV.z)),(500000129,.arr 4 (r.2.2.2.1.map (aC .u))),(1000000000,.var (.agg [.lst .o 1 (((r.2.2.2.2).N).map AV.u8),.i ((r.2.2.2.2).F),.sc (.int .u64 ((r.2.2.2.2).L))]))])):=⟨fun r h=>by
 refine aU (lr:=[500000128,500000129,1000000000]) bH ach rfl rfl ?_;unfold He at h;simp only[ZC,NN,dL];obtain⟨g,j,h⟩:=ah h;refine ZF trivial ?_;refine ZWG trivial (CW.w _ j) [1000000000] [] ?_;obtain⟨b,d,h⟩:=bb h;have k:Row.arr 1 [(.z (⟨#[97]⟩:ByteArray):AV),(.z (⟨#[98]⟩:ByteArray):AV),(.z (⟨#[99]⟩:ByteArray):AV),(.z (⟨#[100]⟩:ByteArray):AV),(.z (⟨#[101]⟩:ByteArray):AV),(.z (⟨#[102]⟩:ByteArray):AV)]=Row.arr 1 (b.map AV.z):=by rw[<-d];rfl
 have c:b.length=6:=by rw[<-d];rfl
 obtain⟨s,l,h⟩:=ah h;obtain⟨t,m,h⟩:=ah h;have f:=ZA k (ZA c (aY l));try refine ZF f ?_
 refine aF (bf (aN (CX.w b) m ?_)) ?_
 ·exact ZK (ZA @UB.eq_1 (ZA @Es.eq_1 (ZA d.symm c)))
 ·simp only[ZC,Es,Ab];obtain⟨v,p,h⟩:=ah h;refine ZF f ?_;refine ZWG f (CW.w _ p) [1000000000] [] ?_;obtain⟨w,q,h⟩:=ah h;try refine ZF f ?_
  refine aF (bf (aN (CX.w b) q ?_)) ?_
  ·exact ZK (ZA @Vp.eq_1 (ZA @Ew.eq_1 c))
  ·simp only[ZC,Ew,AX];cases h;exact ZL f (ZA @dL.eq_1 c)⟩
instance(a:aG):CW (NW a) (fun(r:Nat×Nat×List ByteArray×List aH×aG)=>OkM A1 207 [.pt 1000000000 0 0] [(1000000000,.var (bc .o a))] (.agg [.sl 500000128 r.1 r.2.1,.sl 500000129 0 r.2.2.2.1.length]) ([(500000128,.arr 1 (r.2.2.1.map AV.z)),(500000129,.arr 4 (r.2.2.2.1.map (aC .u))),(1000000000,.var (.agg [.lst .o 1 (((r.2.2.2.2).N).map AV.u8),.i ((r.2.2.2.2).F),.sc (.int .u64 ((r.2.2.2.2).L))]))])):=⟨fun r h=>by
 refine aU (lr:=[500000128,500000129,1000000000]) bH agi rfl rfl ?_;unfold NW at h;simp only[ZC,KY,dL];obtain⟨j,q,h⟩:=ah h;refine ZF trivial ?_;refine ZWG trivial (CW.w _ q) [500000128,500000129,1000000000] [500600128,500600129] ?_;obtain⟨c,h⟩|⟨c,h⟩:=aw h
 ·obtain⟨d,b,h⟩:=bb h;have s:Row.arr 4 [(.agg [.i 0,.i 1,.i 100,.i 0]:AV)]=Row.arr 4 (d.map (aC .u)):=by rw[<-b];rfl
  have k:d.length=1:=by rw[<-b];rfl
  obtain⟨w,t,h⟩:=ah h;have l:=aY t;obtain⟨m,g,h⟩:=bb h;have v:j.2.2.2.1.map (aC .u)++d.map (aC .u)=m.map (aC .u):=by rw[<-g,A5]
  have p:j.2.2.2.1.length+1=m.length:=by simp[<-b,<-g]<;>omega
  rw[p] at l;cases h;exact ZL (ZA c (ZA s (ZA k (ZA l (ZA v p))))) (ZA @dL.eq_1 (ZA b.symm (ZA g.symm k)))
 ·cases h;exact ZL c @dL.eq_1⟩
instance(c:Int)(d:Int)(g:Int):CW (M_g c d g) (fun(r:Bool)=>Ok A1 173 [.i c,.i d,.i g] (.b r)):=⟨fun r h=>ZO m173 (M_g.eq_1 _ _ _) trivial (ZA @dt.eq_1 @A173.eq_1) h⟩
instance(i:Int):CW (Ml i) (fun(r:Bool)=>Ok A1 226 [.sc (.int .u8 i)] (.b r)):=⟨fun r h=>ZO m226 (Ml.eq_1 _) trivial (ZA @abt.eq_1 (ZA @V10.eq_1 @abt.eq_1)) h⟩
def S_a(a:ByteArray)(v:Int):St:=⟨[(0,.z a),(3,.i v)],[]⟩
def cK(v:Unit):St:=⟨[],[]⟩
instance(a:ByteArray):CL (M_a a) vy [0,3] [] (S_a a) (qS (qX 0 [] [] (cK)) (qR V10 (fun r=>.b r))):=⟨fun g o h=>by
 unfold M_a at h;simp only[ZC,S_a,vy];exact ZT trivial (ZA @S_a.eq_1 (ZA @cK.eq_1 (ZA @V10.eq_1 @vy.eq_1))) h⟩
instance(a:ByteArray):CW (Mf a) (fun(r:Bool)=>Ok A1 194 [.z a] (.b r)):=⟨fun r h=>ZO m194 (Mf.eq_1 _) ZJ (ZA @S_a.eq_1 (ZA @cK.eq_1 (ZA @OY.eq_1 (ZA @Pr.eq_1 (ZA @V10.eq_1 @A194.eq_1))))) h⟩
def UX(a:List ByteArray)(b:ByteArray)(v:Int):St:=⟨[(0,.lst .o 1 (a.map AV.z)),(1,.z b),(5,.i v)],[]⟩
instance(b:List ByteArray)(c:ByteArray):CL (IL b c) ws [0,1,5] [] (UX b c) (qS (qX 0 [] [] (cK)) (qR aK (fun r=>.i r))):=⟨fun g o h=>by
 unfold IL at h;simp only[ZC,UX,ws];exact ZT trivial (ZA @UX.eq_1 (ZA @cK.eq_1 (ZA @aK.eq_1 @ws.eq_1))) h⟩
instance(a:List ByteArray)(b:ByteArray):CW (Ot a b) (fun(r:Int)=>Ok A1 195 [.lst .o 1 (a.map AV.z),.z b] (.i r)):=⟨fun r h=>ZO m195 (Ot.eq_1 _ _) ZJ (ZA @UX.eq_1 (ZA @cK.eq_1 (ZA @LT.eq_1 (ZA @aK.eq_1 @A195.eq_1)))) h⟩
instance(c:aH)(j:Int):CW (LA c j) (fun(r:Bool)=>Ok A1 196 [(aC .o c),.i j] (.b r)):=⟨fun r h=>ZO m196 (LA.eq_1 _ _) trivial (ZA @adf.eq_1 (ZA @aK.eq_1 @adf.eq_1)) h⟩
def S_s(a:af)(v:Int):St:=⟨[(1,.pt 1 0 0),(3,.i v)],[(1,.var (ar .o a))]⟩
def yM(a:af)(v:Unit):St:=⟨[(1,.pt 1 0 0)],[(1,.var (ar .o a))]⟩
instance(a:af):CL (M_s a) wF [1,3] [1] (S_s a) (qS (qX 0 [1] [1] (yM a)) (qR V10 (fun r=>.b r))):=⟨fun d o h=>by
 unfold M_s at h;simp only[ZC,S_s,wF];exact ZT ZJ (ZA @S_s.eq_1 (ZA @yM.eq_1 (ZA @V10.eq_1 (ZA @wF.eq_1 @Ov.eq_1)))) h⟩
def We(a:af)(v:Int):St:=⟨[(1,.pt 1 0 0),(4,.i v)],[(1,.var (ar .o a))]⟩
instance(c:af):CL (Kj c) xf [1,4] [1] (We c) (qS (qX 2 [] [] (cK)) (qR V10 (fun r=>.b r))):=⟨fun g o h=>by
 unfold Kj at h;simp only[ZC,We,xf];exact ZT ZJ (ZA @We.eq_1 (ZA @cK.eq_1 (ZA @V10.eq_1 (ZA @xf.eq_1 @Ox.eq_1)))) h⟩
instance(a:af):CW (CO a) (fun(r:Bool)=>Ok A1 131 [(ar .o a)] (.b r)):=⟨fun r h=>ZO m131 (CO.eq_1 _) ZJ (ZA @S_s.eq_1 (ZA @yM.eq_1 (ZA @We.eq_1 (ZA @cK.eq_1 (ZA @QG.eq_1 (ZA @SW.eq_1 (ZA @Rl.eq_1 (ZA @V10.eq_1 @A131.eq_1)))))))) h⟩
instance(b:af)(g:Int)(j:Int):CW (wG b g j) (fun(r:Int)=>Ok A1 233 [(ar .o b),.i g,.i j] (.i r)):=⟨fun r h=>ZO m233 (wG.eq_1 _ _ _) trivial (ZA @dt.eq_1 @A233.eq_1) h⟩
def XZ(a:List Int)(b:Int)(v:Int):St:=⟨[(0,.lst .o 1 (a.map AV.i)),(1,.i b),(5,.i v)],[]⟩
instance(c:List Int)(d:Int):CL (HZ c d) FM [0,1,5] [] (XZ c d) (qS (qX 0 [] [] (cK)) (qR aK (fun r=>.b r))):=⟨fun i o h=>by
 unfold HZ at h;simp only[ZC,XZ,FM];exact ZT trivial (ZA @XZ.eq_1 (ZA @cK.eq_1 (ZA @aK.eq_1 @FM.eq_1))) h⟩
instance(a:List Int)(c:Int):CW (qx a c) (fun(r:Bool)=>Ok A1 74 [.lst .o 1 (a.map AV.i),.i c] (.b r)):=⟨fun r h=>ZO m74 (qx.eq_1 _ _) ZJ (ZA @XZ.eq_1 (ZA @cK.eq_1 (ZA @YR.eq_1 (ZA @aK.eq_1 @A74.eq_1)))) h⟩
def Xu(a:af)(b:aj)(v:Int×List Int):St:=⟨[(2,.pt 2 0 0),(3,.pt 3 0 0),(6,.sl 6 0 v.2.length),(7,.i v.1)],[(2,.var (ar .o a)),(3,.var (ax .o b)),(6,.arr 1 (v.2.map AV.i))]⟩
def uy(v:List Int):St:=⟨[(6,.sl 6 0 v.length)],[(6,.arr 1 (v.map AV.i))]⟩
instance(c:af)(d:aj):CL (Hr c d) BM [2,3,6,7] [2,3,6] (Xu c d) (qS (qX 0 [6] [6] (uy)) (qR lC (fun r=>.tup [.lst .u 1 (r.1.map AV.i),.b r.2]))):=⟨fun a o h=>by
 unfold Hr at h;simp only[ZC,Xu,BM];exact ZT ZJB (ZA @lC.eq_1 (ZA @Xu.eq_1 (ZA @uy.eq_1 @SN.eq_1))) h⟩
instance(c:af)(a:aj):CW (HW c a) (fun(r:List Int×Bool)=>Ok A1 227 [(ar .o c),(ax .o a)] (.tup [.lst .u 1 (r.1.map AV.i),.b r.2])):=⟨fun r h=>ZO m227 (HW.eq_1 _ _) ZJB (ZA @Xu.eq_1 (ZA @uy.eq_1 (ZA @Pc.eq_1 (ZA @Ni.eq_1 (ZA @lC.eq_1 @A227.eq_1))))) h⟩
instance(c:af)(d:aj):CW (Cv c d) (fun(r:Bool)=>Ok A1 198 [(ar .o c),(ax .o d)] (.b r)):=⟨fun r h=>ZO m198 (Cv.eq_1 _ _) trivial (ZA @aK.eq_1 @A198.eq_1) h⟩
instance(c:aD):CW (Jh c) (fun(r:Bool)=>Ok A1 199 [(bD .o c)] (.b r)):=⟨fun r h=>ZO m199 (Jh.eq_1 _) trivial (ZA @V10.eq_1 @A199.eq_1) h⟩
instance(a:af)(b:aj):CW (WK a b) (fun(r:List Int)=>Ok A1 228 [(ar .o a),(ax .o b)] (.lst .u 1 (r.map AV.i))):=⟨fun r h=>ZO m228 (WK.eq_1 _ _) trivial (ZA @aK.eq_1 @A228.eq_1) h⟩
instance(a:af)(b:aj):CW (HT a b) (fun(r:Int)=>Ok A1 200 [(ar .o a),(ax .o b)] (.i r)):=⟨fun r h=>ZO m200 (HT.eq_1 _ _) trivial (ZA @aK.eq_1 @A200.eq_1) h⟩
def S_i(a:af)(b:Int)(v:Int×List Int):St:=⟨[(1,.i b),(2,.pt 2 0 0),(5,.sl 5 0 v.2.length),(6,.i v.1)],[(2,.var (ar .o a)),(5,.arr 1 (v.2.map AV.i))]⟩
def tK(v:List Int):St:=⟨[(5,.sl 5 0 v.length)],[(5,.arr 1 (v.map AV.i))]⟩
instance(d:af)(g:Int):CL (M_i d g) xi [1,2,5,6] [2,5] (S_i d g) (qX 0 [5] [5] (tK)):=⟨fun a o h=>by
 unfold M_i at h;simp only[ZC,S_i,xi];exact ZT ZJB (ZA @S_i.eq_1 (ZA @tK.eq_1 @xi.eq_1)) h⟩
instance(a:af)(b:Int):CW (Bf a b) (fun(r:List Int)=>Ok A1 192 [(ar .o a),.i b] (.lst .u 1 (r.map AV.i))):=⟨fun r h=>ZO m192 (Bf.eq_1 _ _) ZJB (ZA @S_i.eq_1 (ZA @tK.eq_1 (ZA @Qv.eq_1 (ZA @aK.eq_1 @A192.eq_1)))) h⟩
def S_t(a:af)(b:aj)(c:aj)(g:Int)(d:List Int)(v:Int):St:=⟨[(3,.pt 3 0 0),(4,.pt 4 0 0),(5,.pt 5 0 0),(7,.i g),(8,.sl 8 0 d.length),(9,.i v)],[(3,.var (ar .o a)),(4,.var (ax .o b)),(5,.var (ax .o c)),(8,.arr 1 (d.map AV.i))]⟩
def UF(a:af)(b:aj)(c:aj)(d:Int)(v:Unit):St:=⟨[(3,.pt 3 0 0),(4,.pt 4 0 0),(5,.pt 5 0 0),(7,.i d)],[(3,.var (ar .o a)),(4,.var (ax .o b)),(5,.var (ax .o c))]⟩
def w_t(c:af)(d:aj)(a:aj)(g:Int)(i:List Int)(l:Int)(o:Int⊕(Unit⊕Bool))(h:M_t a i l=some o):AWP (OkS A1) Bu (qL [3,4,5,7,8,9] [3,4,5,8] (S_t c d a g i) (qS (qX 2 [3,4,5,7] [3,4,5] (UF c d a g)) (qR dt (fun r=>.b r))) o) (S_t c d a g i l):=by
 have e:=ZA @S_t.eq_1 @UF.eq_1;unfold M_t at h;simp only[ZC,S_t,Bu];obtain⟨j,h⟩|⟨j,h⟩:=aw h
 ·obtain⟨q,m,h⟩:=ah h;obtain⟨s,p,h⟩:=ah h;have f:=ZA j (cg m);refine ZF f ?_;refine ZSG f (CW.w _ p) ?_;obtain⟨k,h⟩|⟨k,h⟩:=aw h
  ·cases h;exact ZL (ZA f k) @dt.eq_1
  ·cases h;exact ZL (ZA f k) e
 ·cases h;exact ZL j e
def Uc(a:af)(b:aj)(c:aj)(v:Int):St:=⟨[(3,.pt 3 0 0),(4,.pt 4 0 0),(5,.pt 5 0 0),(7,.i v)],[(3,.var (ar .o a)),(4,.var (ax .o b)),(5,.var (ax .o c))]⟩
instance(a:af)(c:aj)(d:aj):CL (Kn a c d) Cw [3,4,5,7] [3,4,5] (Uc a c d) (qS (qX 0 [] [] (cK)) (qR dt (fun r=>.b r))):=⟨fun g o h=>by
 have e:=ZA @Uc.eq_1 @cK.eq_1;unfold Kn at h;simp only[ZC,Uc,Cw];obtain⟨j,h⟩|⟨j,h⟩:=aw h
 ·obtain⟨u,w,h⟩:=ah h;try refine ZF j ?_
  refine cm (sh:=(fun v=>⟨[(3,.pt 3 0 0),(4,.pt 4 0 0),(5,.pt 5 0 0),(7,.i g)],[(3,.var (ar .o a)),(4,.var (ax .o c)),(5,.var (ax .o d))]⟩)) (q:=(qR dt (fun r=>.b r))) (o:=u) ?_ (fun c1 hv=>?_) (fun d1 hv e τ hne hq=>?_)
  ·replace h:=w;obtain⟨g1,x,h⟩:=ah h;obtain⟨k,y,h⟩:=ah h;have f:=ZA j (cg x);refine ZF f ?_;refine ZUG f (CW.w _ y) ?_;obtain⟨l,m,h⟩:=ah h;try refine ZF f ?_
   first|refine nV (o:=l) (cT lS (aN (w_t a c d g k) m ?_)) (fun a1 hv τ p=>?_) (fun b1 hv e τ hne hq=>?_)|refine xH (o:=l) lS (aN (w_t a c d g k) m ?_) (fun a1 hv τ p=>?_) (fun b1 hv e τ hne hq=>?_)
   ·exact ZK (ZA @S_t.eq_1 @UF.eq_1)
   ·subst hv;simp only[] at h;cases h;try refine ZF trivial ?_
    refine⟨rfl,Shp.sub p (by decide) (by decide) ?_⟩;exact ZK @UF.eq_1
   ·subst hv;simp only[] at h;obtain⟨rfl,s⟩:=hq;cases h;try refine ZF trivial ?_
    first|exact⟨by simp,s⟩|exact⟨by simp,rfl,s⟩
  ·subst hv;simp only[] at h;simp only[ZC,LR];cases h;exact ZL j e
  ·subst hv;simp only[] at h;obtain⟨rfl,t⟩:=hq;cases h;try refine ZF trivial ?_
   first|exact⟨by simp,t⟩|exact⟨by simp,rfl,t⟩
 ·cases h;exact ZL j e⟩
instance(a:af)(c:aj)(d:aj):CW (yk a c d) (fun(r:Bool)=>Ok A1 185 [(ar .o a),(ax .o c),(ax .o d)] (.b r)):=⟨fun r h=>ZO m185 (yk.eq_1 _ _ _) ZJ (ZA @Uc.eq_1 (ZA @cK.eq_1 (ZA @Oh.eq_1 (ZA @dt.eq_1 @A185.eq_1)))) h⟩
instance(d:af)(a:ae):CW (Qb d a) (fun(r:Bool)=>Ok A1 132 [(ar .o d),(ai .o a)] (.b r)):=⟨fun r h=>by
 have e:=@aK.eq_1;refine bn bH m132 rfl ?_;unfold Qb at h;simp only[ZC,A132,aK,ca];obtain⟨x,y,h⟩:=ah h;try refine ZF trivial ?_
 refine aF (sh:=(fun v=>⟨[(2,.pt 2 0 0),(3,.pt 3 0 0),(27,.b v)],[(2,.var (ar .o d)),(3,.var (ai .o a))]⟩)) (s:=x) ?_ ?_
 ·replace h:=y;obtain⟨q1,a1,h⟩:=ah h;refine ZF trivial ?_;refine ZSG trivial (CW.w _ a1) ?_;obtain⟨c,h⟩|⟨c,h⟩:=aw h
  ·cases h;exact ZL c trivial
  ·obtain⟨s1,b1,h⟩:=ah h;refine ZF c ?_;refine ZSG c (CW.w _ b1) ?_;obtain⟨l,h⟩|⟨l,h⟩:=aw h
   ·cases h;exact ZL (ZA c l) trivial
   ·obtain⟨t1,c1,h⟩:=ah h;have f:=ZA c l;refine ZF f ?_;refine ZSG f (CW.w _ c1) ?_;obtain⟨m,h⟩|⟨m,h⟩:=aw h
    ·cases h;exact ZL (ZA f m) trivial
    ·obtain⟨u1,d1,h⟩:=ah h;have f:=ZA f m;refine ZF f ?_;refine ZSG f (CW.w _ d1) ?_;cases h;exact ZL f trivial
 ·simp only[ZC,Rc];obtain⟨g,h⟩|⟨g,h⟩:=aw h
  ·cases h;exact ZL g e
  ·obtain⟨p,h⟩|⟨p,h⟩:=aw h
   ·obtain⟨g1,i1,h⟩:=ah h;have f:=ZA g p;try refine ZF f ?_
    refine aF (sh:=(fun v=>⟨[(4,.b v)],[]⟩)) (s:=g1) ?_ ?_
    ·replace h:=i1;obtain⟨j,h⟩|⟨j,h⟩:=aw h
     ·obtain⟨q,h⟩|⟨q,h⟩:=aw h
      ·cases h;exact ZL (ZA f (ZA j q)) trivial
      ·cases h;exact ZL (ZA f (ZA j q)) trivial
     ·cases h;exact ZL (ZA f j) trivial
    ·simp only[ZC,Nw];cases h;exact ZL f e
   ·obtain⟨v1,j1,h⟩:=ah h;have f:=ZA g p;refine ZF f ?_;refine ZSG f (CW.w _ j1) ?_;obtain⟨t,h⟩|⟨t,h⟩:=aw h
    ·obtain⟨w1,k1,h⟩:=ah h;have f:=ZA f t;refine ZF f ?_;refine ZSG f (CW.w _ k1) ?_;obtain⟨k,h⟩|⟨k,h⟩:=aw h
     ·obtain⟨u,h⟩|⟨u,h⟩:=aw h
      ·obtain⟨y1,l1,h⟩:=ah h;have f:=ZA f (ZA k u);refine ZF f ?_;refine ZSG f (CW.w _ l1) ?_;obtain⟨z1,m1,h⟩:=ah h;refine ZF f ?_;refine ZSG f (CW.w _ m1) ?_;obtain⟨w,h⟩|⟨w,h⟩:=aw h
       ·obtain⟨a2,p1,h⟩:=ah h;have f:=ZA f w;refine ZF f ?_;refine ZSG f (CW.w _ p1) ?_;cases h;exact ZL f e
       ·cases h;exact ZL (ZA f w) e
      ·cases h;exact ZL (ZA f (ZA k u)) e
     ·cases h;exact ZL (ZA f k) e
    ·cases h;exact ZL (ZA f t) e⟩
def WJ(a:aj)(b:List Int)(v:Int):St:=⟨[(1,.lst .o 1 (b.map AV.i)),(2,.pt 2 0 0),(5,.i v)],[(2,.var (ax .o a))]⟩
instance(a:aj)(c:List Int):CL (Hz a c) vW [1,2,5] [2] (WJ a c) (qS (qX 0 [] [] (cK)) (qR aK (fun r=>.b r))):=⟨fun i o h=>by
 unfold Hz at h;simp only[ZC,WJ,vW];exact ZT trivial (ZA @WJ.eq_1 (ZA @cK.eq_1 (ZA @aK.eq_1 @vW.eq_1))) h⟩
instance(a:aj)(c:List Int):CW (OE a c) (fun(r:Bool)=>Ok A1 144 [(ax .o a),.lst .o 1 (c.map AV.i)] (.b r)):=⟨fun r h=>ZO m144 (OE.eq_1 _ _) ZJ (ZA @WJ.eq_1 (ZA @cK.eq_1 (ZA @Oq.eq_1 (ZA @aK.eq_1 @A144.eq_1)))) h⟩
instance(a:aD):CW (GW a) (fun(r:Int)=>Ok A1 75 [(bD .o a)] (.i r)):=⟨fun r h=>ZO m75 (GW.eq_1 _) trivial (ZA @V10.eq_1 @A75.eq_1) h⟩
instance(d:aj)(g:aD)(j:aj)(k:aD):CW (yT d g j k) (fun(r:Bool)=>Ok A1 145 [(ax .o d),(bD .o g),(ax .o j),(bD .o k)] (.b r)):=⟨fun r h=>ZO m145 (yT.eq_1 _ _ _ _) trivial (ZA @aby.eq_1 (ZA @WV.eq_1 @aby.eq_1)) h⟩
instance(j:af)(a:ae)(c:ae):CW (IU j a c) (fun(r:Bool)=>Ok A1 133 [(ar .o j),(ai .o a),(ai .o c)] (.b r)):=⟨fun r h=>by
 refine bn bH m133 rfl ?_;unfold IU at h;simp only[ZC,A133,dt,ca];obtain⟨q,t,h⟩:=ah h;try refine ZF trivial ?_
 refine aF (sh:=(fun v=>⟨[(3,.pt 3 0 0),(4,.pt 4 0 0),(5,.pt 5 0 0),(37,.b v)],[(3,.var (ar .o j)),(4,.var (ai .o a)),(5,.var (ai .o c))]⟩)) (s:=q) ?_ ?_
 ·replace h:=t;obtain⟨d1,u,h⟩:=ah h;refine ZF trivial ?_;refine ZSG trivial (CW.w _ u) ?_;obtain⟨g,h⟩|⟨g,h⟩:=aw h
  ·cases h;exact ZL g trivial
  ·obtain⟨g1,w,h⟩:=ah h;refine ZF g ?_;refine ZSG g (CW.w _ w) ?_;obtain⟨l,h⟩|⟨l,h⟩:=aw h
   ·cases h;exact ZL (ZA g l) trivial
   ·obtain⟨i1,x,h⟩:=ah h;have f:=ZA g l;refine ZF f ?_;refine ZSG f (CW.w _ x) ?_;cases h;exact ZL f trivial
 ·simp only[ZC,Sk];obtain⟨d,h⟩|⟨d,h⟩:=aw h
  ·cases h;exact ZL d @dt.eq_1
  ·obtain⟨y,a1,h⟩:=ah h;try refine ZF d ?_
   refine aF (sh:=(fun v=>⟨[(4,.pt 4 0 0),(5,.pt 5 0 0),(53,.b v)],[(4,.var (ai .o a)),(5,.var (ai .o c))]⟩)) (s:=y) ?_ ?_
   ·replace h:=a1;obtain⟨k,h⟩|⟨k,h⟩:=aw h
    ·obtain⟨m,h⟩|⟨m,h⟩:=aw h
     ·obtain⟨j1,b1,h⟩:=ah h;have f:=ZA d (ZA k m);refine ZF f ?_;refine ZSG f (CW.w _ b1) ?_;cases h;exact ZL f trivial
     ·cases h;exact ZL (ZA d (ZA k m)) trivial
    ·cases h;exact ZL (ZA d k) trivial
   ·simp only[ZC,LF];obtain⟨p,h⟩|⟨p,h⟩:=aw h
    ·cases h;exact ZL (ZA d p) @dt.eq_1
    ·obtain⟨k1,c1,h⟩:=ah h;have f:=ZA d p;refine ZF f ?_;refine ZSG f (CW.w _ c1) ?_;cases h;exact ZL f @dt.eq_1⟩
def Vz(a:af)(b:List ae)(c:Int)(v:Int):St:=⟨[(1,.lst .o 10 (b.map (ai .o))),(2,.pt 2 0 0),(5,.i c),(6,.i v)],[(2,.var (ar .o a))]⟩
def Ep(a:af)(b:List ae)(c:Int)(v:Unit):St:=⟨[(1,.lst .o 10 (b.map (ai .o))),(2,.pt 2 0 0),(5,.i c)],[(2,.var (ar .o a))]⟩
instance(a:af)(c:List ae)(d:Int):CL (BK a c d) Fm [1,2,5,6] [2] (Vz a c d) (qS (qX 2 [1,2,5] [2] (Ep a c d)) (qR aK (fun r=>.b r))):=⟨fun j o h=>by
 unfold BK at h;simp only[ZC,Vz,Fm];exact ZT trivial (ZA @Vz.eq_1 (ZA @Ep.eq_1 (ZA @aK.eq_1 @Fm.eq_1))) h⟩
def Uy(a:af)(b:List ae)(v:Int):St:=⟨[(1,.lst .o 10 (b.map (ai .o))),(2,.pt 2 0 0),(5,.i v)],[(2,.var (ar .o a))]⟩
instance(a:af)(d:List ae):CL (GL a d) La [1,2,5] [2] (Uy a d) (qS (qX 0 [] [] (cK)) (qR aK (fun r=>.b r))):=⟨fun g o h=>by
 have e:=ZA @Uy.eq_1 @cK.eq_1;unfold GL at h;simp only[ZC,Uy,La];obtain⟨c,h⟩|⟨c,h⟩:=aw h
 ·obtain⟨x,y,h⟩:=ah h;try refine ZF c ?_
  refine cm (sh:=(fun v=>⟨[(1,.lst .o 10 (d.map (ai .o))),(2,.pt 2 0 0),(5,.i g)],[(2,.var (ar .o a))]⟩)) (q:=(qR aK (fun r=>.b r))) (o:=x) ?_ (fun k1 hv=>?_) (fun l1 hv e τ hne hq=>?_)
  ·replace h:=y;obtain⟨a1,b1,h⟩:=ah h;try refine ZF c ?_
   refine aF (sh:=(fun v=>⟨[(1,.lst .o 10 (d.map (ai .o))),(2,.pt 2 0 0),(5,.i g),(45,.b v)],[(2,.var (ar .o a))]⟩)) (s:=a1) ?_ ?_
   ·replace h:=b1;obtain⟨m1,c1,h⟩:=ah h;obtain⟨p1,d1,h⟩:=ah h;have f:=ZA c (cg c1);refine ZF f ?_;refine ZSG f (CW.w _ d1) ?_;obtain⟨j,h⟩|⟨j,h⟩:=aw h
    ·cases h;exact ZL (ZA f j) trivial
    ·obtain⟨k,h⟩|⟨k,h⟩:=aw h
     ·obtain⟨q1,g1,h⟩:=ah h;cases h;exact ZL (ZA f (ZA j (ZA k (cg g1)))) trivial
     ·cases h;exact ZL (ZA f (ZA j k)) trivial
   ·simp only[ZC,Zp];obtain⟨l,h⟩|⟨l,h⟩:=aw h
    ·cases h;exact ZL (ZA c l) @aK.eq_1
    ·obtain⟨m,p,h⟩:=ah h;try refine ZF (ZA c l) ?_
     first|refine nV (o:=m) (cT lS (aN CL.w p ?_)) (fun i1 hv τ t=>?_) (fun j1 hv e τ hne hq=>?_)|refine xH (o:=m) lS (aN CL.w p ?_) (fun i1 hv τ t=>?_) (fun j1 hv e τ hne hq=>?_)
     ·exact ZK (ZA @Vz.eq_1 @Ep.eq_1)
     ·subst hv;simp only[] at h;cases h;try refine ZF trivial ?_
      refine⟨rfl,Shp.sub t (by decide) (by decide) ?_⟩;exact ZK @Ep.eq_1
     ·subst hv;simp only[] at h;obtain⟨rfl,u⟩:=hq;cases h;try refine ZF trivial ?_
      first|exact⟨by simp,u⟩|exact⟨by simp,rfl,u⟩
  ·subst hv;simp only[] at h;simp only[ZC,Zi];cases h;exact ZL c e
  ·subst hv;simp only[] at h;obtain⟨rfl,w⟩:=hq;cases h;try refine ZF trivial ?_
   first|exact⟨by simp,w⟩|exact⟨by simp,rfl,w⟩
 ·cases h;exact ZL c e⟩
instance(a:af)(c:List ae):CW (Nb a c) (fun(r:Bool)=>Ok A1 88 [(ar .o a),.lst .o 10 (c.map (ai .o))] (.b r)):=⟨fun r h=>ZO m88 (Nb.eq_1 _ _) ZJ (ZA @Uy.eq_1 (ZA @cK.eq_1 (ZA @Yw.eq_1 (ZA @YT.eq_1 (ZA @aK.eq_1 @A88.eq_1))))) h⟩
def WN(a:List aA)(v:Int):St:=⟨[(0,.lst .o 2 (a.map (aJ .o))),(3,.i v)],[]⟩
def uw(a:List aA)(v:Unit):St:=⟨[(0,.lst .o 2 (a.map (aJ .o)))],[]⟩
instance(a:List aA):CL (Gc a) vt [0,3] [] (WN a) (qS (qX 0 [0] [] (uw a)) (qR V10 (fun r=>.b r))):=⟨fun g o h=>by
 unfold Gc at h;simp only[ZC,WN,vt];exact ZT ZJ (ZA @WN.eq_1 (ZA @uw.eq_1 (ZA @V10.eq_1 (ZA @vt.eq_1 (ZA @Qh.eq_1 @Rr.eq_1))))) h⟩
instance(a:List aA):CW (NY a) (fun(r:Bool)=>Ok A1 182 [.lst .o 2 (a.map (aJ .o))] (.b r)):=⟨fun r h=>ZO m182 (NY.eq_1 _) ZJ (ZA @WN.eq_1 (ZA @uw.eq_1 (ZA @Mq.eq_1 (ZA @V10.eq_1 @A182.eq_1)))) h⟩
instance(g:af)(c:aO):CW (Ny g c) (fun(r:Bool)=>Ok A1 183 [(ar .o g),(aR .o c)] (.b r)):=⟨fun r h=>ZO m183 (Ny.eq_1 _ _) trivial (ZA @ack.eq_1 (ZA @aK.eq_1 @ack.eq_1)) h⟩
def S_e(a:af)(b:aj)(v:Int×Int):St:=⟨[(2,.pt 2 0 0),(3,.pt 3 0 0),(5,.i v.1),(6,.i v.2)],[(2,.var (ar .o a)),(3,.var (ax .o b))]⟩
def pK(v:Int):St:=⟨[(5,.i v)],[]⟩
instance(a:af)(b:aj):CL (M_e a b) DP [2,3,5,6] [2,3] (S_e a b) (qX 0 [5] [] (pK)):=⟨fun d o h=>by
 unfold M_e at h;simp only[ZC,S_e,DP];exact ZT trivial (ZA @S_e.eq_1 (ZA @pK.eq_1 @DP.eq_1)) h⟩
instance(a:af)(b:aj):CW (py a b) (fun(r:Int)=>Ok A1 91 [(ar .o a),(ax .o b)] (.i r)):=⟨fun r h=>ZO m91 (py.eq_1 _ _) ZJ (ZA @S_e.eq_1 (ZA @pK.eq_1 (ZA @ZE.eq_1 (ZA @aK.eq_1 @A91.eq_1)))) h⟩
instance(c:Int):CW (zF c) (fun(r:Int)=>Ok A1 278 [.i c] (.i r)):=⟨fun r h=>ZO m278 (zF.eq_1 _) trivial (ZA @V10.eq_1 @A278.eq_1) h⟩
def Xn(a:aj)(b:aj)(v:Int):St:=⟨[(4,.pt 4 0 0),(5,.pt 5 0 0),(9,.i v)],[(4,.var (ax .o a)),(5,.var (ax .o b))]⟩
def ST(a:aj)(b:aj)(v:Unit):St:=⟨[(4,.pt 4 0 0),(5,.pt 5 0 0)],[(4,.var (ax .o a)),(5,.var (ax .o b))]⟩
instance(a:aj)(b:aj):CL (IW a b) wg [4,5,9] [4,5] (Xn a b) (qS (qX 0 [4,5] [4,5] (ST a b)) (qR dt (fun r=>.i r))):=⟨fun g o h=>by
 unfold IW at h;simp only[ZC,Xn,wg];exact ZT trivial (ZA @Xn.eq_1 (ZA @ST.eq_1 (ZA @dt.eq_1 @wg.eq_1))) h⟩
instance(d:af)(b:aj)(c:aj):CW (Iz d b c) (fun(r:Int)=>Ok A1 274 [(ar .o d),(ax .o b),(ax .o c)] (.i r)):=⟨fun r h=>ZO m274 (Iz.eq_1 _ _ _) ZJ (ZA @Xn.eq_1 (ZA @ST.eq_1 (ZA @Ph.eq_1 (ZA @dt.eq_1 @A274.eq_1)))) h⟩
instance(a:List Int):CW (pw a) (fun(r:List Int)=>Ok A1 107 [.lst .o 1 (a.map AV.i)] (.lst .u 1 (r.map AV.i))):=⟨fun r h=>ZO m107 (pw.eq_1 _) trivial (ZA @V10.eq_1 @A107.eq_1) h⟩
def WP(a:List aA)(b:Int)(v:Int×Int):St:=⟨[(0,.lst .o 2 (a.map (aJ .o))),(1,.i b),(5,.i v.1),(6,.i v.2)],[]⟩
instance(b:List aA)(c:Int):CL (QI b c) wJ [0,1,5,6] [] (WP b c) (qX 0 [5] [] (pK)):=⟨fun g o h=>by
 unfold QI at h;simp only[ZC,WP,wJ];exact ZT trivial (ZA @WP.eq_1 (ZA @pK.eq_1 @wJ.eq_1)) h⟩
instance(a:List aA)(b:Int):CW (Lu a b) (fun(r:Int)=>Ok A1 165 [.lst .o 2 (a.map (aJ .o)),.i b] (.i r)):=⟨fun r h=>ZO m165 (Lu.eq_1 _ _) ZJ (ZA @WP.eq_1 (ZA @pK.eq_1 (ZA @Si.eq_1 (ZA @aK.eq_1 @A165.eq_1)))) h⟩
instance(c:List aA)(d:Int)(g:Int):CW (Br c d g) (fun(r:Int)=>Ok A1 90 [.lst .o 2 (c.map (aJ .o)),.i d,.i g] (.i r)):=⟨fun r h=>ZO m90 (Br.eq_1 _ _ _) trivial (ZA @dt.eq_1 @A90.eq_1) h⟩
def Vi(a:List aj)(b:List Int)(v:Int×Int):St:=⟨[(0,.lst .o 2 (a.map (ax .o))),(1,.lst .o 1 (b.map AV.i)),(5,.i v.1),(6,.i v.2)],[]⟩
instance(c:List aj)(d:List Int):CL (Sf c d) xb [0,1,5,6] [] (Vi c d) (qX 0 [5] [] (pK)):=⟨fun g o h=>by
 unfold Sf at h;simp only[ZC,Vi,xb];exact ZT ZJ (ZA @Vi.eq_1 (ZA @pK.eq_1 (ZA @xb.eq_1 @Ql.eq_1))) h⟩
instance(a:List aj)(b:List Int):CW (KK a b) (fun(r:Int)=>Ok A1 164 [.lst .o 2 (a.map (ax .o)),.lst .o 1 (b.map AV.i)] (.i r)):=⟨fun r h=>ZO m164 (KK.eq_1 _ _) ZJ (ZA @Vi.eq_1 (ZA @pK.eq_1 (ZA @Mz.eq_1 (ZA @aK.eq_1 @A164.eq_1)))) h⟩
def Xs(a:af)(b:List aj)(c:List Int)(d:Int×Int×Int×Int)(v:Int×Int×Int×Int):St:=⟨[(1,.lst .o 2 (b.map (ax .o))),(2,.lst .o 1 (c.map AV.i)),(3,.pt 3 0 0),(8,.i v.1),(9,.i v.2.1),(10,.i v.2.2.1),(11,.i d.2.2.2),(12,.i v.2.2.2)],[(3,.var (ar .o a))]⟩
def Fk(a:af)(b:List aj)(c:List Int)(d:Int×Int×Int×Int)(v:Int×Int×Int):St:=⟨[(1,.lst .o 2 (b.map (ax .o))),(2,.lst .o 1 (c.map AV.i)),(3,.pt 3 0 0),(8,.i v.1),(9,.i v.2.1),(10,.i v.2.2),(11,.i d.2.2.2)],[(3,.var (ar .o a))]⟩
instance(c:af)(d:List aj)(g:List Int)(j:Int×Int×Int×Int):CL (Ht c d g j) Cb [1,2,3,8,9,10,11,12] [3] (Xs c d g j) (qX 2 [1,2,3,8,9,10,11] [3] (Fk c d g j)):=⟨fun a o h=>by
 have e:=ZA @Xs.eq_1 @Fk.eq_1;unfold Ht at h;simp only[ZC,Xs,Cb];obtain⟨p,h⟩|⟨p,h⟩:=aw h
 ·obtain⟨x,c1,h⟩:=ah h;obtain⟨y,d1,h⟩:=ah h;obtain⟨a1,g1,h⟩:=ah h;obtain⟨b1,i1,h⟩:=ah h;obtain⟨j1,k1,h⟩:=ah h;have f:=ZA p (ZA (cg c1) (ZA (cg d1) (ZA (cg g1) (cg i1))));try refine ZF f ?_
  refine aF (sh:=(fun v=>⟨[(1,.lst .o 2 (d.map (ax .o))),(2,.lst .o 1 (g.map AV.i)),(3,.pt 3 0 0),(8,.i a.1),(9,.i a.2.1),(10,.i a.2.2.1),(11,.i j.2.2.2),(12,.i a.2.2.2),(13,.i (B1 .i64 (x*(y.F.length:Int)))),(14,.i (B1 .i64 (a1*(b1.F.length:Int)))),(79,.b v)],[(3,.var (ar .o c))]⟩)) (s:=j1) ?_ ?_
  ·replace h:=k1;obtain⟨k,h⟩|⟨k,h⟩:=aw h
   ·cases h;exact ZL (ZA f k) trivial
   ·obtain⟨l,h⟩|⟨l,h⟩:=aw h
    ·cases h;exact ZL (ZA f (ZA k l)) trivial
    ·obtain⟨m,h⟩|⟨m,h⟩:=aw h
     ·obtain⟨q,h⟩|⟨q,h⟩:=aw h
      ·cases h;exact ZL (ZA f (ZA k (ZA l (ZA m q)))) trivial
      ·obtain⟨s1,l1,h⟩:=ah h;have f:=ZA f (ZA k (ZA l (ZA m q)));refine ZF f ?_;refine ZSG f (CW.w _ l1) ?_;cases h;exact ZL f trivial
     ·obtain⟨t1,m1,h⟩:=ah h;have f:=ZA f (ZA k (ZA l m));refine ZF f ?_;refine ZSG f (CW.w _ m1) ?_;cases h;exact ZL f trivial
  ·simp only[ZC,SX];obtain⟨t,h⟩|⟨t,h⟩:=aw h
   ·cases h;exact ZL (ZA f t) e
   ·obtain⟨p1,q1,h⟩:=ah h;have f:=ZA f t;try refine ZF f ?_
    refine aF (sh:=(fun v=>⟨[(1,.lst .o 2 (d.map (ax .o))),(2,.lst .o 1 (g.map AV.i)),(3,.pt 3 0 0),(8,.i a.1),(9,.i a.2.1),(10,.i a.2.2.1),(11,.i j.2.2.2),(12,.i a.2.2.2),(13,.i (B1 .i64 (x*(y.F.length:Int)))),(14,.i (B1 .i64 (a1*(b1.F.length:Int)))),(88,.b v)],[(3,.var (ar .o c))]⟩)) (s:=p1) ?_ ?_
    ·replace h:=q1;obtain⟨u,h⟩|⟨u,h⟩:=aw h
     ·cases h;exact ZL (ZA f u) trivial
     ·cases h;exact ZL (ZA f u) trivial
    ·simp only[ZC,OO];obtain⟨w,h⟩|⟨w,h⟩:=aw h
     ·cases h;exact ZL (ZA f w) e
     ·cases h;exact ZL (ZA f w) e
 ·cases h;exact ZL p e⟩
def TJ(a:af)(b:List aj)(c:List Int)(v:Int×Int×Int×Int):St:=⟨[(1,.lst .o 2 (b.map (ax .o))),(2,.lst .o 1 (c.map AV.i)),(3,.pt 3 0 0),(8,.i v.1),(9,.i v.2.1),(10,.i v.2.2.1),(11,.i v.2.2.2)],[(3,.var (ar .o a))]⟩
def Qf(v:Int×Int):St:=⟨[(8,.i v.1),(9,.i v.2)],[]⟩
instance(a:af)(b:List aj)(c:List Int):CL (Mh a b c) CY [1,2,3,8,9,10,11] [3] (TJ a b c) (qX 0 [8,9] [] (Qf)):=⟨fun d o h=>by
 have e:=ZA @TJ.eq_1 @Qf.eq_1;unfold Mh at h;simp only[ZC,TJ,CY];obtain⟨g,h⟩|⟨g,h⟩:=aw h
 ·obtain⟨l,m,h⟩:=ah h;try refine ZF g ?_
  refine aF (sh:=(fun v=>⟨[(1,.lst .o 2 (b.map (ax .o))),(2,.lst .o 1 (c.map AV.i)),(3,.pt 3 0 0),(8,.i v.1),(9,.i v.2.1),(10,.i v.2.2),(11,.i d.2.2.2)],[(3,.var (ar .o a))]⟩)) (s:=l) ?_ ?_
  ·replace h:=m;obtain⟨p,j,h⟩:=ah h;try refine ZF g ?_
   first|refine cQ (bf (aN CL.w j ?_)) (fun τ k=>?_)|refine dM (aN CL.w j ?_) (fun τ k=>?_)
   ·exact ZK (ZA @Xs.eq_1 @Fk.eq_1)
   ·cases h;try refine ZF trivial ?_
    refine⟨rfl,Shp.sub k (by decide) (by decide) ?_⟩;exact ZK @Fk.eq_1
  ·simp only[ZC,Mw];cases h;exact ZL g e
 ·cases h;exact ZL g e⟩
instance(a:af)(b:List aj)(c:List Int):CW (KU a b c) (fun(r:Int×Int)=>Ok A1 122 [(ar .o a),.lst .o 2 (b.map (ax .o)),.lst .o 1 (c.map AV.i)] (.tup [.i r.1,.i r.2])):=⟨fun r h=>ZO m122 (KU.eq_1 _ _ _) ZJ (ZA @TJ.eq_1 (ZA @Qf.eq_1 (ZA @PG.eq_1 (ZA @gt.eq_1 @A122.eq_1)))) h⟩
def Xx(b:af)(c:List ae)(a:ae)(v:Int):St:=⟨[(1,.lst .o 10 (c.map (ai .o))),(3,.pt 3 0 0),(5,.pt 5 0 0),(7,.i v)],[(3,.var (ar .o b)),(5,.var (ai .o a))]⟩
instance(a:af)(c:List ae)(d:ae):CL (Kq a c d) xg [1,3,5,7] [3,5] (Xx a c d) (qS (qX 0 [] [] (cK)) (qR dt (fun r=>.b r))):=⟨fun j o h=>by
 unfold Kq at h;simp only[ZC,Xx,xg];exact ZT trivial (ZA @Xx.eq_1 (ZA @cK.eq_1 (ZA @dt.eq_1 @xg.eq_1))) h⟩
instance(c:af)(d:List ae)(a:ae):CW (tP c d a) (fun(r:Bool)=>Ok A1 166 [(ar .o c),.lst .o 10 (d.map (ai .o)),(ai .o a)] (.b r)):=⟨fun r h=>ZO m166 (tP.eq_1 _ _ _) ZJ (ZA @Xx.eq_1 (ZA @cK.eq_1 (ZA @Lb.eq_1 (ZA @dt.eq_1 @A166.eq_1)))) h⟩
def vx(a:aj)(c:List ByteArray)(d:List aH)(g:Int)(b:List aj)(v:Int):St:=⟨[(0,.pt 1000000000 0 0),(3,.pt 3 0 0),(4,.i v)],[(3,.var (ax .m a)),(1000000000,.var (.agg [.lst .m 1 (c.map AV.z),.lst .m 4 (d.map (aC .m)),.i g,.sl 1000000001 0 b.length])),(1000000001,.arr 2 (b.map (ax .u)))]⟩
theorem w_bg(a:aj)(b:List ByteArray)(c:List aH)(g:Int)(d:List aj)(k:Int)(o:Int⊕Int)(h:aao a b c d k=some o):AWP (OkS A1) sF (qL [0,3,4] [3,1000000000,1000000001] (vx a b c g d) (qX 0 [0,3,4] [3,1000000000,1000000001] (vx a b c g d)) o) (vx a b c g d k):=by
 have e:=ZA @vx.eq_1 @vx.eq_1;unfold aao at h;simp only[ZC,vx,sF];obtain⟨i,h⟩|⟨i,h⟩:=aw h
 ·obtain⟨q,l,h⟩:=ah h;obtain⟨s,m,h⟩:=ah h;obtain⟨t,p,h⟩:=ah h;have f:=ZA i (ZA (aY l) m);refine ZF f ?_;refine ZSG f (CW.w _ p) ?_;obtain⟨j,h⟩|⟨j,h⟩:=aw h
  ·cases h;exact ZL (ZA f j) e
  ·cases h;exact ZL (ZA f j) e
 ·cases h;exact ZL i e
instance(b:aj)(j:List ByteArray)(k:List aH)(l:Int)(a:List aj):CW (afk b j k l a) (fun(r:List ByteArray×List aH×Int×List aj×List aj)=>OkM A1 261 [.pt 1000000000 0 0,(ax .m b)] [(1000000000,.var (.agg [.lst .m 1 (j.map AV.z),.lst .m 4 (k.map (aC .m)),.i l,.sl 1000000001 0 a.length])),(1000000001,.arr 2 (a.map (ax .u)))] (.tup []) ([(49,.arr 2 (r.2.2.2.1.map (ax .m))),(1000000000,.var (.agg [.lst .m 1 (r.1.map AV.z),.lst .m 4 (r.2.1.map (aC .m)),.i r.2.2.1,.sl 49 0 r.2.2.2.1.length])),(1000000001,.arr 2 (r.2.2.2.2.map (ax .u)))])):=⟨fun r h=>by
 refine aU (lr:=[49,1000000000,1000000001]) bH abq rfl rfl ?_;unfold afk at h;simp only[ZC,QO,bM];obtain⟨p,d1,h⟩:=ah h;try refine ZF trivial ?_
 refine aF (bf (aN (w_bg b j k l a) d1 ?_)) ?_
 ·exact ZK (ZA @vx.eq_1 @vx.eq_1)
 ·simp only[ZC,vx,xJ];obtain⟨w1,g1,h⟩:=ah h;obtain⟨q,i1,h⟩:=bb h;have j1:sub (a.map (ax .u)) 0 (B5 p)=q.map (ax .u):=by rw[bN,i1]
  obtain⟨y1,k1,h⟩:=ah h;obtain⟨s,c,h⟩:=bb h;have l1:Row.arr 2 [(.agg [.i ((b).N),.lst .m 1 (((b).F).map AV.i)]:AV)]=Row.arr 2 (s.map (ax .m)):=by rw[<-c];rfl
  have w:s.length=1:=by rw[<-c];rfl
  obtain⟨z1,m1,h⟩:=ah h;have x:=aY m1;obtain⟨d,g,h⟩:=bb h;have p1:q.map (ax .m)++s.map (ax .m)=d.map (ax .m):=by rw[<-g,A5]
  have y:q.length+1=d.length:=by simp[<-c,<-g]<;>omega
  rw[y] at x;obtain⟨a2,q1,h⟩:=ah h;obtain⟨t,s1,h⟩:=bb h;have t1:sub (a.map (ax .u)) (B5 p) (a.length-(B5 p))=t.map (ax .u):=by rw[bN,s1]
  obtain⟨b2,u1,h⟩:=ah h;have a1:=aY u1;obtain⟨b1,v,h⟩:=bb h;have v1:d.map (ax .m)++t.map (ax .m)=b1.map (ax .m):=by rw[<-v,A5]
  have c1:d.length+t.length=b1.length:=by simp[<-c,<-g,<-v]<;>omega
  rw[c1] at a1;cases h;exact ZL (ZA (aY g1) (ZA j1 (ZA (aY k1) (ZA l1 (ZA w (ZA x (ZA p1 (ZA y (ZA (aY q1) (ZA t1 (ZA a1 (ZA v1 c1)))))))))))) (ZA @bM.eq_1 (ZA c.symm (ZA g.symm (ZA v.symm w))))⟩
def vC(a:aj)(c:List ByteArray)(d:List aH)(g:Int)(b:List aj)(v:Int):St:=⟨[(0,.pt 1000000000 0 0),(3,.pt 3 0 0),(4,.i v)],[(3,.var (ax .m a)),(1000000000,.var (.agg [.lst .m 1 (c.map AV.z),.lst .m 4 (d.map (aC .m)),.i g,.sl 1000000001 0 b.length])),(1000000001,.arr 2 (b.map (ax .m)))]⟩
theorem w_ac(a:aj)(b:List ByteArray)(c:List aH)(g:Int)(d:List aj)(k:Int)(o:Int⊕Int)(h:JM a b c d k=some o):AWP (OkS A1) sO (qL [0,3,4] [3,1000000000,1000000001] (vC a b c g d) (qX 0 [0,3,4] [3,1000000000,1000000001] (vC a b c g d)) o) (vC a b c g d k):=by
 have e:=ZA @vC.eq_1 @vC.eq_1;unfold JM at h;simp only[ZC,vC,sO];obtain⟨i,h⟩|⟨i,h⟩:=aw h
 ·obtain⟨q,l,h⟩:=ah h;obtain⟨s,m,h⟩:=ah h;obtain⟨t,p,h⟩:=ah h;have f:=ZA i (ZA (aY l) m);refine ZF f ?_;refine ZSG f (CW.w _ p) ?_;obtain⟨j,h⟩|⟨j,h⟩:=aw h
  ·cases h;exact ZL (ZA f j) e
  ·cases h;exact ZL (ZA f j) e
 ·cases h;exact ZL i e
instance(b:aj)(j:List ByteArray)(k:List aH)(l:Int)(a:List aj):CW (PF b j k l a) (fun(r:List ByteArray×List aH×Int×List aj×List aj)=>OkM A1 261 [.pt 1000000000 0 0,(ax .m b)] [(1000000000,.var (.agg [.lst .m 1 (j.map AV.z),.lst .m 4 (k.map (aC .m)),.i l,.sl 1000000001 0 a.length])),(1000000001,.arr 2 (a.map (ax .m)))] (.tup []) ([(49,.arr 2 (r.2.2.2.1.map (ax .m))),(1000000000,.var (.agg [.lst .m 1 (r.1.map AV.z),.lst .m 4 (r.2.1.map (aC .m)),.i r.2.2.1,.sl 49 0 r.2.2.2.1.length])),(1000000001,.arr 2 (r.2.2.2.2.map (ax .m)))])):=⟨fun r h=>by
 refine aU (lr:=[49,1000000000,1000000001]) bH abw rfl rfl ?_;unfold PF at h;simp only[ZC,QL,bM];obtain⟨p,c1,h⟩:=ah h;try refine ZF trivial ?_
 refine aF (bf (aN (w_ac b j k l a) c1 ?_)) ?_
 ·exact ZK (ZA @vC.eq_1 @vC.eq_1)
 ·simp only[ZC,vC,Ag];obtain⟨v1,d1,h⟩:=ah h;obtain⟨q,g1,h⟩:=bb h;have i1:sub (a.map (ax .m)) 0 (B5 p)=q.map (ax .m):=by rw[bN,g1]
  obtain⟨w1,j1,h⟩:=ah h;obtain⟨s,c,h⟩:=bb h;have k1:Row.arr 2 [(.agg [.i ((b).N),.lst .m 1 (((b).F).map AV.i)]:AV)]=Row.arr 2 (s.map (ax .m)):=by rw[<-c];rfl
  have v:s.length=1:=by rw[<-c];rfl
  obtain⟨y1,l1,h⟩:=ah h;have w:=aY l1;obtain⟨d,g,h⟩:=bb h;have m1:q.map (ax .m)++s.map (ax .m)=d.map (ax .m):=by rw[<-g,A5]
  have x:q.length+1=d.length:=by simp[<-c,<-g]<;>omega
  rw[x] at w;obtain⟨z1,p1,h⟩:=ah h;obtain⟨t,q1,h⟩:=bb h;have s1:sub (a.map (ax .m)) (B5 p) (a.length-(B5 p))=t.map (ax .m):=by rw[bN,q1]
  obtain⟨a2,t1,h⟩:=ah h;have y:=aY t1;obtain⟨a1,u,h⟩:=bb h;have u1:d.map (ax .m)++t.map (ax .m)=a1.map (ax .m):=by rw[<-u,A5]
  have b1:d.length+t.length=a1.length:=by simp[<-c,<-g,<-u]<;>omega
  rw[b1] at y;cases h;exact ZL (ZA (aY d1) (ZA i1 (ZA (aY j1) (ZA k1 (ZA v (ZA w (ZA m1 (ZA x (ZA (aY p1) (ZA s1 (ZA y (ZA u1 b1)))))))))))) (ZA @bM.eq_1 (ZA c.symm (ZA g.symm (ZA u.symm v))))⟩
def OM(b:Int)(c:List Int)(a:List Int)(d:Int)(v:Int×List ByteArray×List aH×Int×List aj):St:=⟨[(0,.pt 1000000000 0 0),(2,.sl 1000000003 0 a.length),(4,.pt 4 0 0),(6,.i d),(7,.i v.1)],[(4,.var (.agg [.i b,.lst .m 1 (c.map AV.i)])),(470000003,.arr 2 (v.2.2.2.2.map (ax .m))),(1000000000,.var (.agg [.lst .m 1 (v.2.1.map AV.z),.lst .m 4 (v.2.2.1.map (aC .m)),.i v.2.2.2.1,.sl 470000003 0 v.2.2.2.2.length])),(1000000003,.arr 1 (a.map AV.i))]⟩
def FO(a:List Int)(v:List ByteArray×List aH×Int×List aj):St:=⟨[],[(470000003,.arr 2 (v.2.2.2.map (ax .m))),(1000000000,.var (.agg [.lst .m 1 (v.1.map AV.z),.lst .m 4 (v.2.1.map (aC .m)),.i v.2.2.1,.sl 470000003 0 v.2.2.2.length])),(1000000003,.arr 1 (a.map AV.i))]⟩
def w_aa(j:Int)(u:List ByteArray)(w:List aH)(x:Int)(p:List aj)(d:List Int)(c:List Int)(i1:Int->List ByteArray->List aH->Int->List aj->List Int->List Int->Option (List ByteArray×List aH×Int×List aj×List Int))(k:Int)(y1:∀(j:Int)(u:List ByteArray)(w:List aH)(x:Int)(p:List aj)(d:List Int)(c:List Int){r:List ByteArray×List aH×Int×List aj×List Int},i1 j u w x p d c=some r->OkM A1 240 [.pt 1000000000 0 0,.agg [.i j,.sl 1000000002 0 d.length],.sl 1000000003 0 c.length] [(1000000000,.var (.agg [.lst .m 1 (u.map AV.z),.lst .m 4 (w.map (aC .m)),.i x,.sl 1000000001 0 p.length])),(1000000001,.arr 2 (p.map (ax .m))),(1000000002,.arr 1 (d.map AV.i)),(1000000003,.arr 1 (c.map AV.i))] (.tup []) ([(470000003,.arr 2 (r.2.2.2.1.map (ax .m))),(1000000000,.var (.agg [.lst .m 1 (r.1.map AV.z),.lst .m 4 (r.2.1.map (aC .m)),.i r.2.2.1,.sl 470000003 0 r.2.2.2.1.length])),(1000000003,.arr 1 (r.2.2.2.2.map AV.i))]))(a:Int×List ByteArray×List aH×Int×List aj)(o:(Int×List ByteArray×List aH×Int×List aj)⊕(List ByteArray×List aH×Int×List aj))(h:KC j d c i1 k a=some o):AWP (OkS A1) oa (qL [0,2,4,6,7] [4,470000003,1000000000,1000000003] (OM j d c k) (qX 0 [] [470000003,1000000000,1000000003] (FO c)) o) (OM j d c k a):=by
 have e:=ZA @OM.eq_1 @FO.eq_1;unfold KC at h;simp only[ZC,OM,oa];obtain⟨z1,a2,h⟩:=ah h;try refine ZF trivial ?_
 refine aF (sh:=(fun v=>⟨[(0,.pt 1000000000 0 0),(2,.sl 1000000003 0 c.length),(4,.pt 4 0 0),(6,.i k),(7,.i a.1),(39,.b v)],[(4,.var (.agg [.i j,.lst .m 1 (d.map AV.i)])),(470000003,.arr 2 (a.2.2.2.2.map (ax .m))),(1000000000,.var (.agg [.lst .m 1 (a.2.1.map AV.z),.lst .m 4 (a.2.2.1.map (aC .m)),.i a.2.2.2.1,.sl 470000003 0 a.2.2.2.2.length])),(1000000003,.arr 1 (c.map AV.i))]⟩)) (s:=z1) ?_ ?_
 ·replace h:=a2;obtain⟨y,h⟩|⟨y,h⟩:=aw h
  ·cases h;exact ZL y trivial
  ·cases h;exact ZL y trivial
 ·simp only[ZC,uc];obtain⟨g,h⟩|⟨g,h⟩:=aw h
  ·obtain⟨j1,b2,h⟩:=ah h;refine ZF g ?_;refine ZSG g (CW.w _ b2) ?_;obtain⟨c2,d2,h⟩:=ah h;try refine ZF g ?_
   refine aF (sh:=(fun v=>⟨[(0,.pt 1000000000 0 0),(2,.sl 1000000003 0 c.length),(4,.pt 4 0 0),(6,.i k),(7,.i a.1),(8,.i j1),(56,.b v)],[(4,.var (.agg [.i j,.lst .m 1 (d.map AV.i)])),(470000003,.arr 2 (a.2.2.2.2.map (ax .m))),(1000000000,.var (.agg [.lst .m 1 (a.2.1.map AV.z),.lst .m 4 (a.2.2.1.map (aC .m)),.i a.2.2.2.1,.sl 470000003 0 a.2.2.2.2.length])),(1000000003,.arr 1 (c.map AV.i))]⟩)) (s:=c2) ?_ ?_
   ·replace h:=d2;obtain⟨a1,h⟩|⟨a1,h⟩:=aw h
    ·obtain⟨u2,g2,h⟩:=ah h;have f:=ZA g a1;refine ZF f ?_;refine ZSG f (CW.w _ g2) ?_;cases h;exact ZL f trivial
    ·cases h;exact ZL (ZA g a1) trivial
   ·simp only[ZC,ve];obtain⟨b1,h⟩|⟨b1,h⟩:=aw h
    ·obtain⟨k1,i2,h⟩:=ah h;have f:=ZA g b1;refine ZF f ?_;refine ZUG f (CW.w _ i2) ?_;obtain⟨c1,l,h⟩:=bb h;have j2:Row.arr 1 [(.i a.1:AV)]=Row.arr 1 (c1.map AV.i):=by rw[<-l];rfl
     have l1:c1.length=1:=by rw[<-l];rfl
     obtain⟨v2,k2,h⟩:=ah h;have m1:=aY k2;obtain⟨p1,q,h⟩:=bb h;have l2:k1.map AV.i++c1.map AV.i=p1.map AV.i:=by rw[<-q,A5]
     have q1:k1.length+1=p1.length:=by simp[<-l,<-q]<;>omega
     rw[q1] at m1;obtain⟨s1,m2,h⟩:=ah h;have f:=ZA f (ZA j2 (ZA l1 (ZA m1 (ZA l2 q1))));refine ZF f ?_;refine ZUG f (CW.w _ m2) ?_;obtain⟨d1,t,h⟩:=bb h;have p2:Row.arr 1 [(.i j1:AV)]=Row.arr 1 (d1.map AV.i):=by rw[<-t];rfl
     have t1:d1.length=1:=by rw[<-t];rfl
     obtain⟨w2,q2,h⟩:=ah h;have u1:=aY q2;obtain⟨v1,g1,h⟩:=bb h;have s2:s1.map AV.i++d1.map AV.i=v1.map AV.i:=by rw[<-g1,A5]
     have w1:s1.length+1=v1.length:=by simp[<-l,<-q,<-t,<-g1]<;>omega
     rw[w1] at u1;obtain⟨x2,t2,h⟩:=ah h;have f:=ZA f (ZA p2 (ZA t1 (ZA u1 (ZA s2 w1))));refine ZF f ?_;refine ZWG f (y1 _ _ _ _ _ _ _ t2) [470000003,1000000000,1000000003] [477300003] ?_;cases h;exact ZL f (ZA e (ZA l.symm (ZA q.symm (ZA t.symm (ZA g1.symm (ZA l1 t1))))))
    ·cases h;exact ZL (ZA g b1) e
  ·cases h;exact ZL g e
def ahw(l:Int->List ByteArray->List aH->Int->List aj->List Int->List Int->Option (List ByteArray×List aH×Int×List aj×List Int))(q:∀(d:Int)(g:List ByteArray)(j:List aH)(k:Int)(a:List aj)(b:List Int)(c:List Int){r:List ByteArray×List aH×Int×List aj×List Int},l d g j k a b c=some r->OkM A1 240 [.pt 1000000000 0 0,.agg [.i d,.sl 1000000002 0 b.length],.sl 1000000003 0 c.length] [(1000000000,.var (.agg [.lst .m 1 (g.map AV.z),.lst .m 4 (j.map (aC .m)),.i k,.sl 1000000001 0 a.length])),(1000000001,.arr 2 (a.map (ax .m))),(1000000002,.arr 1 (b.map AV.i)),(1000000003,.arr 1 (c.map AV.i))] (.tup []) ([(470000003,.arr 2 (r.2.2.2.1.map (ax .m))),(1000000000,.var (.agg [.lst .m 1 (r.1.map AV.z),.lst .m 4 (r.2.1.map (aC .m)),.i r.2.2.1,.sl 470000003 0 r.2.2.2.1.length])),(1000000003,.arr 1 (r.2.2.2.2.map AV.i))]))(d:Int)(g:List ByteArray)(j:List aH)(k:Int)(a:List aj)(b:List Int)(c:List Int){r:List ByteArray×List aH×Int×List aj×List Int}(h:GS l d g j k a b c=some r):OkM A1 240 [.pt 1000000000 0 0,.agg [.i d,.sl 1000000002 0 b.length],.sl 1000000003 0 c.length] [(1000000000,.var (.agg [.lst .m 1 (g.map AV.z),.lst .m 4 (j.map (aC .m)),.i k,.sl 1000000001 0 a.length])),(1000000001,.arr 2 (a.map (ax .m))),(1000000002,.arr 1 (b.map AV.i)),(1000000003,.arr 1 (c.map AV.i))] (.tup []) ([(470000003,.arr 2 (r.2.2.2.1.map (ax .m))),(1000000000,.var (.agg [.lst .m 1 (r.1.map AV.z),.lst .m 4 (r.2.1.map (aC .m)),.i r.2.2.1,.sl 470000003 0 r.2.2.2.1.length])),(1000000003,.arr 1 (r.2.2.2.2.map AV.i))]):=by
 refine aU (lr:=[470000003,1000000000,1000000003]) bH Yc rfl rfl ?_;unfold GS at h;simp only[ZC,FG,bM];obtain⟨y,s,h⟩:=ah h;obtain⟨t,u,h⟩:=ah h;obtain⟨p,h⟩|⟨p,h⟩:=aw h
 ·obtain⟨a1,x,h⟩:=ah h;have f:=ZA (aY s) (ZA u p);refine ZF f ?_;refine ZWG f (CW.w _ x) [49,1000000000,1000000001] [2400049] ?_;cases h;exact ZL f @bM.eq_1
 ·obtain⟨b1,v,h⟩:=ah h;try refine ZF (ZA (aY s) (ZA u p)) ?_
  first|refine cQ (bf (aN (w_aa d g j k a b c l t q) v ?_)) (fun τ w=>?_)|refine dM (aN (w_aa d g j k a b c l t q) v ?_) (fun τ w=>?_)
  ·exact ZK (ZA @OM.eq_1 @FO.eq_1)
  ·cases h;refine gR w (by decide) ?_ rfl;exact ZK (ZA @bM.eq_1 @FO.eq_1)
theorem w_ce:∀(n:Nat)(d:Int)(g:List ByteArray)(j:List aH)(k:Int)(a:List aj)(b:List Int)(c:List Int){r:List ByteArray×List aH×Int×List aj×List Int}(_:CN n d g j k a b c=some r),OkM A1 240 [.pt 1000000000 0 0,.agg [.i d,.sl 1000000002 0 b.length],.sl 1000000003 0 c.length] [(1000000000,.var (.agg [.lst .m 1 (g.map AV.z),.lst .m 4 (j.map (aC .m)),.i k,.sl 1000000001 0 a.length])),(1000000001,.arr 2 (a.map (ax .m))),(1000000002,.arr 1 (b.map AV.i)),(1000000003,.arr 1 (c.map AV.i))] ((fun(r:List ByteArray×List aH×Int×List aj×List Int)=>.tup []) r) ((fun(r:List ByteArray×List aH×Int×List aj×List Int)=>[(470000003,.arr 2 (r.2.2.2.1.map (ax .m))),(1000000000,.var (.agg [.lst .m 1 (r.1.map AV.z),.lst .m 4 (r.2.1.map (aC .m)),.i r.2.2.1,.sl 470000003 0 r.2.2.2.1.length])),(1000000003,.arr 1 (r.2.2.2.2.map AV.i))]) r)
 |0,d,g,j,k,a,b,c,_,h=>by cases h
 |n+1,d,g,j,k,a,b,c,_,h=>ahw (CN n) (w_ce n) d g j k a b c h
def VE(b:Int)(a:List Int)(c:Int)(v:Int×List ByteArray×List aH×Int×List aj):St:=⟨[(0,.pt 1000000000 0 0),(2,.sl 1000000001 0 a.length),(4,.pt 4 0 0),(6,.i c),(7,.i v.1)],[(4,.var (.agg [.i b,.lst .m 1 []])),(470000003,.arr 2 (v.2.2.2.2.map (ax .m))),(1000000000,.var (.agg [.lst .m 1 (v.2.1.map AV.z),.lst .m 4 (v.2.2.1.map (aC .m)),.i v.2.2.2.1,.sl 470000003 0 v.2.2.2.2.length])),(1000000001,.arr 1 (a.map AV.i))]⟩
def Fb(a:List Int)(v:List ByteArray×List aH×Int×List aj):St:=⟨[],[(470000003,.arr 2 (v.2.2.2.map (ax .m))),(1000000000,.var (.agg [.lst .m 1 (v.1.map AV.z),.lst .m 4 (v.2.1.map (aC .m)),.i v.2.2.1,.sl 470000003 0 v.2.2.2.length])),(1000000001,.arr 1 (a.map AV.i))]⟩
instance(g:Int)(d:List Int)(j:Int):CL (aes g d j) qz [0,2,4,6,7] [4,470000003,1000000000,1000000001] (VE g d j) (qX 0 [] [470000003,1000000000,1000000001] (Fb d)):=⟨fun a o h=>by
 have e:=ZA @VE.eq_1 @Fb.eq_1;unfold aes at h;simp only[ZC,VE,qz];obtain⟨q1,s1,h⟩:=ah h;try refine ZF trivial ?_
 refine aF (sh:=(fun v=>⟨[(0,.pt 1000000000 0 0),(2,.sl 1000000001 0 d.length),(4,.pt 4 0 0),(6,.i j),(7,.i a.1),(39,.b v)],[(4,.var (.agg [.i g,.lst .m 1 []])),(470000003,.arr 2 (a.2.2.2.2.map (ax .m))),(1000000000,.var (.agg [.lst .m 1 (a.2.1.map AV.z),.lst .m 4 (a.2.2.1.map (aC .m)),.i a.2.2.2.1,.sl 470000003 0 a.2.2.2.2.length])),(1000000001,.arr 1 (d.map AV.i))]⟩)) (s:=q1) ?_ ?_
 ·replace h:=s1;obtain⟨q,h⟩|⟨q,h⟩:=aw h
  ·cases h;exact ZL q trivial
  ·cases h;exact ZL q trivial
 ·simp only[ZC,zC];obtain⟨c,h⟩|⟨c,h⟩:=aw h
  ·obtain⟨a1,t1,h⟩:=ah h;refine ZF c ?_;refine ZSG c (CW.w _ t1) ?_;obtain⟨u1,v1,h⟩:=ah h;try refine ZF c ?_
   refine aF (sh:=(fun v=>⟨[(0,.pt 1000000000 0 0),(2,.sl 1000000001 0 d.length),(4,.pt 4 0 0),(6,.i j),(7,.i a.1),(8,.i a1),(56,.b v)],[(4,.var (.agg [.i g,.lst .m 1 []])),(470000003,.arr 2 (a.2.2.2.2.map (ax .m))),(1000000000,.var (.agg [.lst .m 1 (a.2.1.map AV.z),.lst .m 4 (a.2.2.1.map (aC .m)),.i a.2.2.2.1,.sl 470000003 0 a.2.2.2.2.length])),(1000000001,.arr 1 (d.map AV.i))]⟩)) (s:=u1) ?_ ?_
   ·replace h:=v1;obtain⟨t,h⟩|⟨t,h⟩:=aw h
    ·obtain⟨k2,w1,h⟩:=ah h;have f:=ZA c t;refine ZF f ?_;refine ZSG f (CW.w _ w1) ?_;cases h;exact ZL f trivial
    ·cases h;exact ZL (ZA c t) trivial
   ·simp only[ZC,AJ];obtain⟨u,h⟩|⟨u,h⟩:=aw h
    ·obtain⟨b1,y1,h⟩:=ah h;have f:=ZA c u;refine ZF f ?_;refine ZUG f (CW.w _ y1) ?_;obtain⟨w,k,h⟩:=bb h;have z1:Row.arr 1 [(.i a.1:AV)]=Row.arr 1 (w.map AV.i):=by rw[<-k];rfl
     have c1:w.length=1:=by rw[<-k];rfl
     obtain⟨l2,a2,h⟩:=ah h;have d1:=aY a2;obtain⟨g1,l,h⟩:=bb h;have b2:b1.map AV.i++w.map AV.i=g1.map AV.i:=by rw[<-l,A5]
     have i1:b1.length+1=g1.length:=by simp[<-k,<-l]<;>omega
     rw[i1] at d1;obtain⟨j1,c2,h⟩:=ah h;have f:=ZA f (ZA z1 (ZA c1 (ZA d1 (ZA b2 i1))));refine ZF f ?_;refine ZUG f (CW.w _ c2) ?_;obtain⟨x,p,h⟩:=bb h;have d2:Row.arr 1 [(.i a1:AV)]=Row.arr 1 (x.map AV.i):=by rw[<-p];rfl
     have k1:x.length=1:=by rw[<-p];rfl
     obtain⟨m2,g2,h⟩:=ah h;have l1:=aY g2;obtain⟨m1,y,h⟩:=bb h;have i2:j1.map AV.i++x.map AV.i=m1.map AV.i:=by rw[<-y,A5]
     have p1:j1.length+1=m1.length:=by simp[<-k,<-l,<-p,<-y]<;>omega
     rw[p1] at l1;obtain⟨p2,j2,h⟩:=ah h;have f:=ZA f (ZA d2 (ZA k1 (ZA l1 (ZA i2 p1))));refine ZF f ?_;refine ZWG f (w_ce N0 _ _ _ _ _ _ _ j2) [470000003,1000000000,1000000003] [477300003] ?_;cases h;exact ZL f (ZA e (ZA k.symm (ZA l.symm (ZA p.symm (ZA y.symm (ZA c1 k1))))))
    ·cases h;exact ZL (ZA c u) e
  ·cases h;exact ZL c e⟩
instance(b:Int)(d:List ByteArray)(g:List aH)(j:Int)(a:List Int):CW (UC b d g j a) (fun(r:List ByteArray×List aH×Int×List aj×List Int)=>OkM A1 240 [.pt 1000000000 0 0,.agg [.i b,.lst .u 1 []],.sl 1000000001 0 a.length] [(1000000000,.var (.agg [.lst .m 1 (d.map AV.z),.lst .m 4 (g.map (aC .m)),.i j,.lst .u 2 []])),(1000000001,.arr 1 (a.map AV.i))] (.tup []) ([(470000003,.arr 2 (r.2.2.2.1.map (ax .m))),(1000000000,.var (.agg [.lst .m 1 (r.1.map AV.z),.lst .m 4 (r.2.1.map (aC .m)),.i r.2.2.1,.sl 470000003 0 r.2.2.2.1.length])),(1000000001,.arr 1 (r.2.2.2.2.map AV.i))])):=⟨fun r h=>by
 refine aU (lr:=[470000003,1000000000,1000000001]) bH agb rfl rfl ?_;unfold UC at h;simp only[ZC,Ky,bM];obtain⟨v,k,h⟩:=ah h;obtain⟨l,p,h⟩:=ah h;obtain⟨c,h⟩|⟨c,h⟩:=aw h
 ·obtain⟨w,t,h⟩:=ah h;have f:=ZA (aY k) (ZA p c);refine ZF f ?_;refine ZWG f (CW.w _ t) [49,1000000000,1000000001] [2400049] ?_;cases h;exact ZL f @bM.eq_1
 ·obtain⟨x,q,h⟩:=ah h;try refine ZF (ZA (aY k) (ZA p c)) ?_
  first|refine cQ (bf (aN CL.w q ?_)) (fun τ s=>?_)|refine dM (aN CL.w q ?_) (fun τ s=>?_)
  ·exact ZK (ZA @VE.eq_1 @Fb.eq_1)
  ·cases h;refine gR s (by decide) ?_ rfl;exact ZK (ZA @bM.eq_1 @Fb.eq_1)⟩
instance(c:af)(d:Int)(k:Int):CW (HF c d k) (fun(r:Bool×List aj)=>OkM A1 218 [(ar .m c),.i d,.i k] [] (.tup [.sl 6 0 r.2.length,.b r.1]) ([(6,.arr 2 (r.2.map (ax .m)))])):=⟨fun r h=>by
 refine aU (lr:=[6]) bH acs rfl rfl ?_;unfold HF at h;simp only[ZC,Md,gt];obtain⟨l,a,h⟩:=bb h;have p:Row.arr 1 [(.i d:AV)]=Row.arr 1 (l.map AV.i):=by rw[<-a];rfl
 have g:l.length=1:=by rw[<-a];rfl
 obtain⟨t,q,h⟩:=ah h;have f:=ZA p g;refine ZF f ?_;refine ZWG f (CW.w _ q) [470000003,1000000000,1000000001] [471900003] ?_;obtain⟨j,h⟩|⟨j,h⟩:=aw h
 ·cases h;exact ZL (ZA f j) (ZA @gt.eq_1 (ZA a.symm g))
 ·obtain⟨u,s,h⟩:=ah h;cases h;exact ZL (ZA f (ZA j (aY s))) (ZA @gt.eq_1 (ZA a.symm g))⟩
def VQ(b:af)(d:Nat)(g:Nat)(a:aO)(j:List aA)(c:Bool×List aj)(v:Int×List aj×List Int):St:=⟨[(1,.sl 1000000000 d g),(3,.pt 3 0 0),(5,.pt 5 0 0),(9,.sl 9 0 v.2.1.length),(10,.sl 10 0 v.2.2.length),(11,.sl 11 0 c.2.length),(13,.i v.1)],[(3,.var (ar .m b)),(5,.var (aR .o a)),(9,.arr 2 (v.2.1.map (ax .m))),(10,.arr 1 (v.2.2.map AV.i)),(11,.arr 2 (c.2.map (ax .m))),(1000000000,.arr 2 (j.map (aJ .u)))]⟩
def DG(a:List aA)(v:List aj×List Int):St:=⟨[(9,.sl 9 0 v.1.length),(10,.sl 10 0 v.2.length)],[(9,.arr 2 (v.1.map (ax .m))),(10,.arr 1 (v.2.map AV.i)),(1000000000,.arr 2 (a.map (aJ .u)))]⟩
instance(l:af)(d:Nat)(g:Nat)(p:aO)(b:List aA)(q:Bool×List aj):CL (HE l d g p b q) nH [1,3,5,9,10,11,13] [3,5,9,10,11,1000000000] (VQ l d g p b q) (qX 0 [9,10] [9,10,1000000000] (DG b)):=⟨fun a o h=>by
 unfold HE at h;simp only[ZC,VQ,nH];exact ZT ZJB (ZA @VQ.eq_1 (ZA @DG.eq_1 @nH.eq_1)) h⟩
instance(c:af)(g:Nat)(j:Nat)(a:aO)(k:List aA):CW (TG c g j a k) (fun(r:Bool×List aj×List Int×List aA)=>OkM A1 184 [(ar .m c),.sl 1000000000 g j,(aR .o a)] [(1000000000,.arr 2 (k.map (aJ .u)))] (.tup [.sl 6 0 r.2.1.length,.sl 7 0 r.2.2.1.length,.b r.1]) ([(6,.arr 2 (r.2.1.map (ax .m))),(7,.arr 1 (r.2.2.1.map AV.i)),(1000000000,.arr 2 (r.2.2.2.map (aJ .u)))])):=⟨fun r h=>by
 refine aU (lr:=[6,7,1000000000]) bH aej rfl rfl ?_;unfold TG at h;simp only[ZC,Pi,kn];obtain⟨l,p,h⟩:=ah h;refine ZF trivial ?_;refine ZWG trivial (CW.w _ p) [6] [2400006] ?_;obtain⟨d,h⟩|⟨d,h⟩:=aw h
 ·cases h;exact ZL d @kn.eq_1
 ·obtain⟨s,q,h⟩:=ah h;try refine ZF d ?_
  refine aF (bf (aN CL.w q ?_)) ?_
  ·exact ZK (ZA @VQ.eq_1 @DG.eq_1)
  ·simp only[ZC,DG,Ae];cases h;exact ZL d @kn.eq_1⟩
instance(c:af)(g:Nat)(j:Nat)(a:aO)(k:List aA):CW (Gx c g j a k) (fun(r:Bool×List aj×List Int×List aA)=>OkM A1 121 [(ar .m c),.sl 1000000000 g j,(aR .o a)] [(1000000000,.arr 2 (k.map (aJ .u)))] (.tup [.sl 6 0 r.2.1.length,.sl 7 0 r.2.2.1.length,.b r.1]) ([(6,.arr 2 (r.2.1.map (ax .m))),(7,.arr 1 (r.2.2.1.map AV.i)),(1000000000,.arr 2 (r.2.2.2.map (aJ .u)))])):=⟨fun r h=>by
 refine aU (lr:=[6,7,1000000000]) bH agj rfl rfl ?_;unfold Gx at h;simp only[ZC,Sv,kn];obtain⟨q,t,h⟩:=ah h;try refine ZF trivial ?_
 refine aF (sh:=(fun v=>⟨[(1,.sl 1000000000 g j),(3,.pt 3 0 0),(5,.pt 5 0 0),(22,.b v)],[(3,.var (ar .m c)),(5,.var (aR .o a)),(1000000000,.arr 2 (k.map (aJ .u)))]⟩)) (s:=q) ?_ ?_
 ·replace h:=t;obtain⟨g1,w,h⟩:=ah h;refine ZF trivial ?_;refine ZSG trivial (CW.w _ w) ?_;obtain⟨l,h⟩|⟨l,h⟩:=aw h
  ·cases h;exact ZL l trivial
  ·obtain⟨x,y,h⟩:=bb h;have a1:sub (k.map (aJ .u)) g j=x.map (aJ .u):=by rw[bN,y]
   obtain⟨i1,b1,h⟩:=ah h;have f:=ZA l a1;refine ZF f ?_;refine ZSG f (CW.w _ b1) ?_;obtain⟨p,h⟩|⟨p,h⟩:=aw h
   ·cases h;exact ZL (ZA f p) trivial
   ·obtain⟨j1,c1,h⟩:=ah h;have f:=ZA f p;refine ZF f ?_;refine ZSG f (CW.w _ c1) ?_;cases h;exact ZL f trivial
 ·simp only[ZC,xG];obtain⟨d,h⟩|⟨d,h⟩:=aw h
  ·cases h;exact ZL d @kn.eq_1
  ·obtain⟨k1,d1,h⟩:=ah h;refine ZF d ?_;refine ZWG d (CW.w _ d1) [6,7,1000000000] [2900006,2900007] ?_;cases h;exact ZL d @kn.eq_1⟩
instance(d:af)(j:Nat)(k:Nat)(c:aO)(l:List aA):CW (NO d j k c l) (fun(r:aj×aj×Bool×List aA)=>OkM A1 44 [(ar .m d),.sl 1000000000 j k,(aR .o c)] [(1000000000,.arr 2 (l.map (aJ .u)))] (.tup [.agg [.i ((r.1).N),.lst .m 1 (((r.1).F).map AV.i)],.agg [.i ((r.2.1).N),.lst .m 1 (((r.2.1).F).map AV.i)],.b r.2.2.1]) ([(1000000000,.arr 2 (r.2.2.2.map (aJ .u)))])):=⟨fun r h=>by
 refine aU (lr:=[1000000000]) bH aij rfl rfl ?_;unfold NO at h;simp only[ZC,Yr,zO];obtain⟨x,p,h⟩:=ah h;refine ZF trivial ?_;refine ZWG trivial (CW.w _ p) [6,7,1000000000] [1900006,1900007] ?_;obtain⟨a,h⟩|⟨a,h⟩:=aw h
 ·cases h;exact ZL a @zO.eq_1
 ·obtain⟨y,q,h⟩:=ah h;refine ZF a ?_;refine ZUG a (CW.w _ q) ?_;obtain⟨g,h⟩|⟨g,h⟩:=aw h
  ·cases h;exact ZL (ZA a g) @zO.eq_1
  ·obtain⟨a1,s,h⟩:=ah h;obtain⟨b1,t,h⟩:=ah h;obtain⟨c1,v,h⟩:=ah h;obtain⟨d1,w,h⟩:=ah h;cases h;exact ZL (ZA a (ZA g (ZA (aY s) (ZA t (ZA (aY v) w))))) @zO.eq_1⟩
instance(a:aj):CW (Sy a) (fun(r:aj)=>Ok A1 214 [(ax .o a)] (.agg [.i r.N,.lst .u 1 (r.F.map AV.i)])):=⟨fun r h=>ZO m214 (Sy.eq_1 _) trivial (ZA @dL.eq_1 @A214.eq_1) h⟩
instance(a:ae):CW (zp a) (fun(r:ae)=>Ok A1 167 [(ai .o a)] (.agg [.i r.Id,.i r.W,.i r.N.N,.lst .u 1 (r.N.F.map AV.i),.i r.P.N,.i r.P.F,.i r.F.N,.lst .u 1 (r.F.F.map AV.i),.i r.L.N,.i r.L.F])):=⟨fun r h=>ZO m167 (zp.eq_1 _) trivial (ZA @V167.eq_1 @A167.eq_1) h⟩
def Gr(b:List ae)(a:ae)(v:Int×List ae):St:=⟨[(0,.lst .o 10 (b.map (ai .o))),(3,.pt 3 0 0),(5,.sl 5 0 v.2.length),(6,.i v.1)],[(3,.var (ai .o a)),(5,.arr 10 (v.2.map (ai .u)))]⟩
instance(g:List ae)(a:ae):CL (Ap g a) PL [0,3,5,6] [3,5] (Gr g a) (qX 0 [0,3,5,6] [3,5] (Gr g a)):=⟨fun d o h=>by
 have e:=ZA @Gr.eq_1 @Gr.eq_1;unfold Ap at h;simp only[ZC,Gr,PL];obtain⟨y,z,h⟩:=ah h;try refine ZF trivial ?_
 refine aF (sh:=(fun v=>⟨[(0,.lst .o 10 (g.map (ai .o))),(3,.pt 3 0 0),(5,.sl 5 0 d.2.length),(6,.i d.1),(21,.b v)],[(3,.var (ai .o a)),(5,.arr 10 (d.2.map (ai .u)))]⟩)) (s:=y) ?_ ?_
 ·replace h:=z;obtain⟨k,h⟩|⟨k,h⟩:=aw h
  ·obtain⟨j1,a1,h⟩:=ah h;cases h;exact ZL (ZA k (cg a1)) trivial
  ·cases h;exact ZL k trivial
 ·simp only[ZC,YS];obtain⟨l,h⟩|⟨l,h⟩:=aw h
  ·obtain⟨k1,b1,h⟩:=ah h;obtain⟨c,c1,h⟩:=ah h;have f:=ZA l (cg b1);refine ZF f ?_;refine ZUG f (CW.w _ c1) ?_;obtain⟨m,j,h⟩:=bb h;have d1:Row.arr 10 [(.agg [.i c.Id,.i c.W,.i c.N.N,.lst .u 1 (c.N.F.map AV.i),.i c.P.N,.i c.P.F,.i c.F.N,.lst .u 1 (c.F.F.map AV.i),.i c.L.N,.i c.L.F]:AV)]=Row.arr 10 (m.map (ai .u)):=by rw[<-j];rfl
   have q:m.length=1:=by rw[<-j];rfl
   obtain⟨l1,g1,h⟩:=ah h;have t:=aY g1;obtain⟨w,p,h⟩:=bb h;have i1:d.2.map (ai .u)++m.map (ai .u)=w.map (ai .u):=by rw[<-p,A5]
   have x:d.2.length+1=w.length:=by simp[<-j,<-p]<;>omega
   rw[x] at t;cases h;exact ZL (ZA f (ZA d1 (ZA q (ZA t (ZA i1 x))))) (ZA e (ZA j.symm (ZA p.symm q)))
  ·cases h;exact ZL l e⟩
def Ux(a:List ae)(v:Int×List ae):St:=⟨[(0,.lst .o 10 (a.map (ai .o))),(5,.sl 5 0 v.2.length),(6,.i v.1)],[(5,.arr 10 (v.2.map (ai .u)))]⟩
def LS(v:List ae):St:=⟨[(5,.sl 5 0 v.length)],[(5,.arr 10 (v.map (ai .u)))]⟩
instance(d:List ae):CL (Be d) FV [0,5,6] [5] (Ux d) (qX 2 [5] [5] (LS)):=⟨fun b o h=>by
 unfold Be at h;simp only[ZC,Ux,FV];exact ZT ZJB (ZA @Ux.eq_1 (ZA @LS.eq_1 @FV.eq_1)) h⟩
instance(c:List ae)(a:ae):CW (GB c a) (fun(r:List ae)=>Ok A1 93 [.lst .o 10 (c.map (ai .o)),(ai .o a)] (.lst .u 10 (r.map (ai .u)))):=⟨fun r h=>ZO m93 (GB.eq_1 _ _) ZJB (ZA @Gr.eq_1 (ZA @Ux.eq_1 (ZA @LS.eq_1 (ZA @ZV.eq_1 (ZA @YF.eq_1 (ZA @aK.eq_1 @A93.eq_1)))))) h⟩
instance(j:af)(d:aG):CW (Ax j d) (fun(r:aO×aG)=>OkM A1 84 [.pt 1000000000 0 0,(ar .m j)] [(1000000000,.var (bc .o d))] (.agg [.i ((r.1).N),.i ((r.1).L),.i ((r.1).F),.i ((r.1).W)]) ([(1000000000,.var (.agg [.lst .o 1 (((r.2).N).map AV.u8),.i ((r.2).F),.sc (.int .u64 ((r.2).L))]))])):=⟨fun r h=>by
 have e:=@Lz.eq_1;refine aU (lr:=[1000000000]) bH ajn rfl rfl ?_;unfold Ax at h;simp only[ZC,Zq,Lz];obtain⟨m1,w,h⟩:=ah h;refine ZF trivial ?_;refine ZWG trivial (CW.w _ w) [1000000000] [] ?_;obtain⟨p1,x,h⟩:=ah h;refine ZF trivial ?_;refine ZWG trivial (CW.w _ x) [1000000000] [] ?_;obtain⟨q1,y,h⟩:=ah h;obtain⟨q,a,h⟩:=bb h;have a1:Row.arr 1 [(.i 10:AV),(.i 20:AV),(.i 40:AV),(.i 50:AV),(.i 90:AV),(.i 120:AV)]=Row.arr 1 (q.map AV.i):=by rw[<-a];rfl
 have b:q.length=6:=by rw[<-a];rfl
 obtain⟨s1,b1,h⟩:=ah h;have f:=ZA (aY y) (ZA a1 b);refine ZF f ?_;refine ZWG f (CW.w _ b1) [1000000000,1000000001] [] ?_;obtain⟨t1,c1,h⟩:=ah h;refine ZF f ?_;refine ZWG f (CW.w _ c1) [1000000000] [] ?_;obtain⟨u1,d1,h⟩:=ah h;refine ZF f ?_;refine ZWG f (CW.w _ d1) [1000000000] [] ?_;obtain⟨c,h⟩|⟨c,h⟩:=aw h
 ·obtain⟨v1,g1,h⟩:=ah h;have f:=ZA f c;refine ZF f ?_;refine ZWG f (CW.w _ g1) [1000000000] [] ?_;cases h;exact ZL f (ZA e (ZA a.symm b))
 ·obtain⟨g,h⟩|⟨g,h⟩:=aw h
  ·obtain⟨s,k,h⟩:=bb h;have i1:Row.arr 1 [(.i 0:AV),(.i 1:AV),(.i 1000:AV),(.i 1001:AV)]=Row.arr 1 (s.map AV.i):=by rw[<-k];rfl
   have t:s.length=4:=by rw[<-k];rfl
   obtain⟨w1,j1,h⟩:=ah h;have f:=ZA f (ZA c (ZA g (ZA i1 t)));refine ZF f ?_;refine ZWG f (CW.w _ j1) [1000000000,1000000001] [] ?_;cases h;exact ZL f (ZA e (ZA a.symm (ZA k.symm (ZA b t))))
  ·obtain⟨l,h⟩|⟨l,h⟩:=aw h
   ·obtain⟨u,p,h⟩:=bb h;have k1:Row.arr 1 [(.i (-1):AV),(.i 3:AV)]=Row.arr 1 (u.map AV.i):=by rw[<-p];rfl
    have v:u.length=2:=by rw[<-p];rfl
    obtain⟨y1,l1,h⟩:=ah h;have f:=ZA f (ZA c (ZA g (ZA l (ZA k1 v))));refine ZF f ?_;refine ZWG f (CW.w _ l1) [1000000000,1000000001] [] ?_;cases h;exact ZL f (ZA e (ZA a.symm (ZA p.symm (ZA b v))))
   ·cases h;exact ZL (ZA f (ZA c (ZA g l))) (ZA e (ZA a.symm b))⟩
instance(d:af)(k:Nat)(l:Nat)(a:aO)(p:List aA):CW (KD d k l a p) (fun(r:aj×Int×Bool×List aA)=>OkM A1 89 [(ar .m d),.sl 1000000000 k l,(aR .o a)] [(1000000000,.arr 2 (p.map (aJ .u)))] (.tup [.agg [.i ((r.1).N),.lst .m 1 (((r.1).F).map AV.i)],.i r.2.1,.b r.2.2.1]) ([(1000000000,.arr 2 (r.2.2.2.map (aJ .u)))])):=⟨fun r h=>by
 refine aU (lr:=[1000000000]) bH ajd rfl rfl ?_;unfold KD at h;simp only[ZC,YH,Dw];obtain⟨c,q,h⟩:=ah h;refine ZF trivial ?_;refine ZWG trivial (CW.w _ q) [6,7,1000000000] [1800006,1800007] ?_;obtain⟨t,w,h⟩:=ah h;refine ZF trivial ?_;refine ZSG trivial (CW.w _ w) ?_;obtain⟨x,y,h⟩:=ah h;try refine ZF trivial ?_
 refine aF (sh:=(fun v=>⟨[(6,.pt 6 0 0),(9,.sl 9 0 c.2.1.length),(10,.sl 10 0 c.2.2.1.length),(12,.i t),(29,.b v)],[(6,.var (.agg [.i 0,.lst .u 1 []])),(9,.arr 2 (c.2.1.map (ax .m))),(10,.arr 1 (c.2.2.1.map AV.i)),(1000000000,.arr 2 (c.2.2.2.map (aJ .u)))]⟩)) (s:=x) ?_ ?_
 ·replace h:=y;obtain⟨g,h⟩|⟨g,h⟩:=aw h
  ·cases h;exact ZL g trivial
  ·cases h;exact ZL g trivial
 ·simp only[ZC,DM];obtain⟨j,h⟩|⟨j,h⟩:=aw h
  ·cases h;exact ZL j @Dw.eq_1
  ·obtain⟨g1,a1,h⟩:=ah h;obtain⟨i1,b1,h⟩:=ah h;obtain⟨j1,c1,h⟩:=ah h;obtain⟨k1,d1,h⟩:=ah h;cases h;exact ZL (ZA j (ZA (aY a1) (ZA b1 (ZA (aY c1) d1)))) @Dw.eq_1⟩
def S_q(b:af)(c:Nat)(d:Nat)(a:ae)(g:Int)(j:Int)(k:List ae)(v:Int×ae):St:=⟨[(1,.sl 1000000000 c d),(3,.i g),(4,.i j),(5,.pt 5 0 0),(7,.pt 7 0 0),(10,.pt 10 0 0),(12,.pt 12 0 0),(13,.i v.1)],[(5,.var (ar .m b)),(7,.var (ai .m a)),(10,.var (.agg [.i 0,.i 0,.i 0,.lst .u 1 [],.i 0,.i 0,.i 0,.lst .u 1 [],.i 0,.i 0])),(12,.var (.agg [.i ((v.2).Id),.i ((v.2).W),.i (((v.2).N).N),.lst .m 1 ((((v.2).N).F).map AV.i),.i (((v.2).P).N),.i (((v.2).P).F),.i (((v.2).F).N),.lst .u 1 ((((v.2).F).F).map AV.i),.i (((v.2).L).N),.i (((v.2).L).F)])),(1000000000,.arr 10 (k.map (ai .u)))]⟩
def Wr(b:af)(c:Nat)(d:Nat)(a:ae)(g:Int)(j:List ae)(v:ae):St:=⟨[(1,.sl 1000000000 c d),(4,.i g),(5,.pt 5 0 0),(7,.pt 7 0 0),(10,.pt 10 0 0),(12,.pt 12 0 0)],[(5,.var (ar .m b)),(7,.var (ai .m a)),(10,.var (.agg [.i 0,.i 0,.i 0,.lst .u 1 [],.i 0,.i 0,.i 0,.lst .u 1 [],.i 0,.i 0])),(12,.var (.agg [.i ((v).Id),.i ((v).W),.i (((v).N).N),.lst .m 1 ((((v).N).F).map AV.i),.i (((v).P).N),.i (((v).P).F),.i (((v).F).N),.lst .u 1 ((((v).F).F).map AV.i),.i (((v).L).N),.i (((v).L).F)])),(1000000000,.arr 10 (j.map (ai .u)))]⟩
instance(g:af)(a:Nat)(c:Nat)(j:ae)(k:Int)(d:List ae):CX (M_q g a c j k d) pM [1,3,4,5,7,10,12,13] [5,7,10,12,1000000000] (Int) (fun l=>(S_q g a c j k l d)) (fun l=>(qS (qX 0 [1,4,5,7,10,12] [5,7,10,12,1000000000] (Wr g a c j l d)) (qM gB [1000000000] (fun(r:ae×Bool×List ae)=>.tup [.agg [.i ((r.1).Id),.i ((r.1).W),.i (((r.1).N).N),.lst .m 1 ((((r.1).N).F).map AV.i),.i (((r.1).P).N),.i (((r.1).P).F),.i (((r.1).F).N),.lst .m 1 ((((r.1).F).F).map AV.i),.i (((r.1).L).N),.i (((r.1).L).F)],.b r.2.1]) (fun(r:ae×Bool×List ae)=>[(1000000000,.arr 10 (r.2.2.map (ai .u)))])))):=⟨fun l s o h=>by
 unfold M_q at h;simp only[ZC,S_q,pM];exact ZT ZJB (ZA @S_q.eq_1 (ZA @Wr.eq_1 (ZA @gB.eq_1 @pM.eq_1))) h⟩
def S_r(a:af)(b:Nat)(c:Nat)(d:Int)(g:List ae)(v:Int×ae):St:=⟨[(1,.sl 1000000000 b c),(4,.i d),(5,.pt 5 0 0),(7,.pt 7 0 0),(10,.pt 10 0 0),(14,.i v.1)],[(5,.var (ar .m a)),(7,.var (ai .m v.2)),(10,.var (.agg [.i 0,.i 0,.i 0,.lst .u 1 [],.i 0,.i 0,.i 0,.lst .u 1 [],.i 0,.i 0])),(1000000000,.arr 10 (g.map (ai .u)))]⟩
def Ua(a:List ae)(v:ae):St:=⟨[(7,.pt 7 0 0),(10,.pt 10 0 0)],[(7,.var (ai .m v)),(10,.var (.agg [.i 0,.i 0,.i 0,.lst .u 1 [],.i 0,.i 0,.i 0,.lst .u 1 [],.i 0,.i 0])),(1000000000,.arr 10 (a.map (ai .u)))]⟩
instance(g:af)(c:Nat)(d:Nat)(j:Int)(a:List ae):CL (M_r g c d j a) pT [1,4,5,7,10,14] [5,7,10,1000000000] (S_r g c d j a) (qS (qX 2 [7,10] [7,10,1000000000] (Ua a)) (qM gB [1000000000] (fun(r:ae×Bool×List ae)=>.tup [.agg [.i ((r.1).Id),.i ((r.1).W),.i (((r.1).N).N),.lst .m 1 ((((r.1).N).F).map AV.i),.i (((r.1).P).N),.i (((r.1).P).F),.i (((r.1).F).N),.lst .m 1 ((((r.1).F).F).map AV.i),.i (((r.1).L).N),.i (((r.1).L).F)],.b r.2.1]) (fun(r:ae×Bool×List ae)=>[(1000000000,.arr 10 (r.2.2.map (ai .u)))]))):=⟨fun p o h=>by
 unfold M_r at h;simp only[ZC,S_r,pT];exact ZT ZJB (ZA @S_r.eq_1 (ZA @Ua.eq_1 (ZA @gB.eq_1 @pT.eq_1))) h⟩
instance(c:af)(d:Nat)(g:Nat)(a:ae)(p:Int)(j:Int)(k:List ae):CW (yI c d g a p j k) (fun(r:ae×Bool×List ae)=>OkM A1 92 [(ar .m c),.sl 1000000000 d g,(ai .m a),.i p,.i j] [(1000000000,.arr 10 (k.map (ai .u)))] (.tup [.agg [.i ((r.1).Id),.i ((r.1).W),.i (((r.1).N).N),.lst .m 1 ((((r.1).N).F).map AV.i),.i (((r.1).P).N),.i (((r.1).P).F),.i (((r.1).F).N),.lst .m 1 ((((r.1).F).F).map AV.i),.i (((r.1).L).N),.i (((r.1).L).F)],.b r.2.1]) ([(1000000000,.arr 10 (r.2.2.map (ai .u)))])):=⟨fun r h=>by
 refine aU (lr:=[1000000000]) bH air rfl rfl ?_;unfold yI at h;simp only[ZC,ZP,gB];obtain⟨q,s,h⟩:=ah h;try refine ZF trivial ?_
 refine cm (o:=q) (cT sf (aN (CX.w j) s ?_)) (fun y hv=>?_) (fun a1 hv e τ hne hq=>?_)
 ·exact ZK (ZA @S_q.eq_1 @Wr.eq_1)
 ·subst hv;simp only[] at h;simp only[ZC,Wr,EI];obtain⟨l,h⟩|⟨l,h⟩:=aw h
  ·cases h;exact ZL l @gB.eq_1
  ·obtain⟨t,v,h⟩:=ah h;try refine ZF l ?_
   refine cm (o:=t) (cT sf (aN CL.w v ?_)) (fun b1 hv=>?_) (fun c1 hv e τ hne hq=>?_)
   ·exact ZK (ZA @S_r.eq_1 @Ua.eq_1)
   ·subst hv;simp only[] at h;simp only[ZC,Ua,El];cases h;exact ZL l @gB.eq_1
   ·subst hv;simp only[] at h;obtain⟨rfl,w⟩:=hq;cases h;exact w
 ·subst hv;simp only[] at h;obtain⟨rfl,x⟩:=hq;cases h;exact x⟩
def S_d(b:af)(c:Nat)(d:Nat)(g:Nat)(j:Nat)(a:aO)(k:List aA)(l:List ae)(v:Int×ae):St:=⟨[(1,.sl 1000000000 c d),(2,.sl 1000000001 g j),(4,.pt 4 0 0),(7,.pt 7 0 0),(11,.sl 11 0 0),(12,.pt 12 0 0),(13,.i v.1)],[(4,.var (ar .m b)),(7,.var (aR .o a)),(11,.arr 10 []),(12,.var (ai .m v.2)),(1000000000,.arr 2 (k.map (aJ .u))),(1000000001,.arr 10 (l.map (ai .u)))]⟩
def Ue(b:af)(c:Nat)(d:Nat)(g:Nat)(j:Nat)(a:aO)(k:List aA)(l:List ae)(v:ae):St:=⟨[(1,.sl 1000000000 c d),(2,.sl 1000000001 g j),(4,.pt 4 0 0),(7,.pt 7 0 0),(11,.sl 11 0 0),(12,.pt 12 0 0)],[(4,.var (ar .m b)),(7,.var (aR .o a)),(11,.arr 10 []),(12,.var (ai .m v)),(1000000000,.arr 2 (k.map (aJ .u))),(1000000001,.arr 10 (l.map (ai .u)))]⟩
theorem w_d(d:af)(l:Nat)(p:Nat)(g:Nat)(j:Nat)(c:aO)(q:List aA)(k:List ae)(a:Int×ae)(o:(Int×ae)⊕ae)(h:M_d g j k a=some o):AWP (OkS A1) vO (qL [1,2,4,7,11,12,13] [4,7,11,12,1000000000,1000000001] (S_d d l p g j c q k) (qX 0 [1,2,4,7,11,12] [4,7,11,12,1000000000,1000000001] (Ue d l p g j c q k)) o) (S_d d l p g j c q k a):=by
 have e:=ZA @S_d.eq_1 @Ue.eq_1;unfold M_d at h;simp only[ZC,S_d,vO];obtain⟨x,y,h⟩:=ah h;try refine ZF trivial ?_
 refine aF (sh:=(fun v=>⟨[(1,.sl 1000000000 l p),(2,.sl 1000000001 g j),(4,.pt 4 0 0),(7,.pt 7 0 0),(11,.sl 11 0 0),(12,.pt 12 0 0),(13,.i a.1),(50,.b v)],[(4,.var (ar .m d)),(7,.var (aR .o c)),(11,.arr 10 []),(12,.var (ai .m a.2)),(1000000000,.arr 2 (q.map (aJ .u))),(1000000001,.arr 10 (k.map (ai .u)))]⟩)) (s:=x) ?_ ?_
 ·replace h:=y;obtain⟨t,h⟩|⟨t,h⟩:=aw h
  ·obtain⟨c1,a1,h⟩:=ah h;obtain⟨d1,b1,h⟩:=ah h;cases h;exact ZL (ZA t (ZA (aY a1) b1)) trivial
  ·cases h;exact ZL t trivial
 ·simp only[ZC,Du];obtain⟨w,h⟩|⟨w,h⟩:=aw h
  ·cases h;exact ZL w e
  ·cases h;exact ZL w e
instance(d:af)(j:Nat)(k:Nat)(l:Nat)(p:Nat)(a:aO)(t:List aA)(q:List ae):CW (AR d j k l p a t q) (fun(r:Int×Bool×List ae×List aA×List ae)=>OkM A1 23 [(ar .m d),.sl 1000000000 j k,.sl 1000000001 l p,(aR .o a)] [(1000000000,.arr 2 (t.map (aJ .u))),(1000000001,.arr 10 (q.map (ai .u)))] (.tup [.sl 8 0 r.2.2.1.length,.i r.1,.b r.2.1]) ([(8,.arr 10 (r.2.2.1.map (ai .u))),(1000000000,.arr 2 (r.2.2.2.1.map (aJ .u))),(1000000001,.arr 10 (r.2.2.2.2.map (ai .u)))])):=⟨fun r h=>by
 have e:=@kr.eq_1;refine aU (lr:=[8,1000000000,1000000001]) bH ajp rfl rfl ?_;unfold AR at h;simp only[ZC,YE,kr];obtain⟨d1,g1,h⟩:=ah h;try refine ZF trivial ?_
 refine aF (sh:=(fun v=>⟨[(1,.sl 1000000000 j k),(2,.sl 1000000001 l p),(4,.pt 4 0 0),(7,.pt 7 0 0),(11,.sl 11 0 0),(32,.b v)],[(4,.var (ar .m d)),(7,.var (aR .o a)),(11,.arr 10 []),(1000000000,.arr 2 (t.map (aJ .u))),(1000000001,.arr 10 (q.map (ai .u)))]⟩)) (s:=d1) ?_ ?_
 ·replace h:=g1;obtain⟨i1,j1,h⟩:=bb h;have w:sub (q.map (ai .u)) l p=i1.map (ai .u):=by rw[bN,j1]
  obtain⟨q2,k1,h⟩:=ah h;refine ZF w ?_;refine ZSG w (CW.w _ k1) ?_;obtain⟨x,h⟩|⟨x,h⟩:=aw h
  ·cases h;exact ZL (ZA w x) trivial
  ·cases h;exact ZL (ZA w x) trivial
 ·simp only[ZC,FI];obtain⟨g,h⟩|⟨g,h⟩:=aw h
  ·cases h;exact ZL g e
  ·obtain⟨s2,l1,h⟩:=ah h;try refine ZF g ?_
   refine aF (bf (aN (w_d d j k l p a t q) l1 ?_)) ?_
   ·exact ZK (ZA @S_d.eq_1 @Ue.eq_1)
   ·simp only[ZC,Ue,Eg];obtain⟨t2,m1,h⟩:=ah h;refine ZF g ?_;refine ZWG g (CW.w _ m1) [1000000000] [] ?_;obtain⟨c,p1,h⟩:=ah h;try refine ZF g ?_
    refine aF (sh:=(fun v=>⟨[(1,.sl 1000000000 j k),(2,.sl 1000000001 l p),(4,.pt 4 0 0),(7,.pt 7 0 0),(11,.sl 11 0 0),(12,.pt 12 0 0),(14,.pt 14 0 0),(16,.b v.1),(17,.i 0)],[(4,.var (ar .m d)),(7,.var (aR .o a)),(11,.arr 10 []),(12,.var (ai .m v.2.1)),(14,.var (ax .m v.2.2.1)),(1000000000,.arr 2 (v.2.2.2.map (aJ .u))),(1000000001,.arr 10 (q.map (ai .u)))]⟩)) (s:=c) ?_ ?_
    ·replace h:=p1;obtain⟨y,h⟩|⟨y,h⟩:=aw h
     ·obtain⟨u2,q1,h⟩:=ah h;have f:=ZA g y;refine ZF f ?_;refine ZWG f (CW.w _ q1) [1000000000] [] ?_;cases h;exact ZL f trivial
     ·cases h;exact ZL (ZA g y) trivial
    ·simp only[ZC,Er];obtain⟨a1,h⟩|⟨a1,h⟩:=aw h
     ·cases h;exact ZL (ZA g a1) e
     ·obtain⟨s1,t1,h⟩:=ah h;have f:=ZA g a1;try refine ZF f ?_
      refine aF (sh:=(fun v=>⟨[(1,.sl 1000000000 j k),(2,.sl 1000000001 l p),(4,.pt 4 0 0),(7,.pt 7 0 0),(11,.sl 11 0 0),(12,.pt 12 0 0),(14,.pt 14 0 0),(17,.i v)],[(4,.var (ar .m d)),(7,.var (aR .o a)),(11,.arr 10 []),(12,.var (ai .m c.2.1)),(14,.var (ax .m c.2.2.1)),(1000000000,.arr 2 (c.2.2.2.map (aJ .u))),(1000000001,.arr 10 (q.map (ai .u)))]⟩)) (s:=s1) ?_ ?_
      ·replace h:=t1;obtain⟨b1,h⟩|⟨b1,h⟩:=aw h
       ·obtain⟨v2,u1,h⟩:=ah h;have f:=ZA f b1;refine ZF f ?_;refine ZSG f (CW.w _ u1) ?_;obtain⟨v1,w1,h⟩:=bb h;have y1:sub (c.2.2.2.map (aJ .u)) j k=v1.map (aJ .u):=by rw[bN,w1]
        obtain⟨w2,z1,h⟩:=ah h;have f:=ZA f y1;refine ZF f ?_;refine ZSG f (CW.w _ z1) ?_;cases h;exact ZL f trivial
       ·cases h;exact ZL (ZA f b1) trivial
      ·simp only[ZC,Ec];obtain⟨x2,a2,h⟩:=ah h;refine ZF f ?_;refine ZSG f (CW.w _ a2) ?_;obtain⟨b2,c2,h⟩:=bb h;have d2:sub (c.2.2.2.map (aJ .u)) j k=b2.map (aJ .u):=by rw[bN,c2]
       obtain⟨y2,g2,h⟩:=ah h;have f:=ZA f d2;refine ZF f ?_;refine ZSG f (CW.w _ g2) ?_;obtain⟨i2,j2,h⟩:=ah h;refine ZF f ?_;refine ZWG f (CW.w _ j2) [1000000000] [] ?_;obtain⟨c1,h⟩|⟨c1,h⟩:=aw h
       ·cases h;exact ZL (ZA f c1) e
       ·obtain⟨k2,l2,h⟩:=bb h;have m2:sub (i2.2.2.map (ai .u)) l p=k2.map (ai .u):=by rw[bN,l2]
        obtain⟨z2,p2,h⟩:=ah h;have f:=ZA f (ZA c1 m2);refine ZF f ?_;refine ZUG f (CW.w _ p2) ?_;cases h;exact ZL f e⟩
def TH(a:Nat×Nat×List ByteArray×List aH×aG)(b:List ByteArray)(v:Nat×Nat×Int×List ae×List aA×aG):St:=⟨[(0,.pt 1000000000 0 0),(2,.pt 2 0 0),(4,.pt 4 0 0),(5,.sl 5 0 v.1),(6,.sl 6 0 v.2.1),(7,.i v.2.2.1)],[(2,.var (.agg [.lst .u 1 [],.lst .u 4 []])),(4,.var (.agg [.lst .m 1 (b.map AV.z),.lst .m 4 (a.2.2.2.1.map (aC .m))])),(5,.arr 10 (v.2.2.2.1.map (ai .u))),(6,.arr 2 (v.2.2.2.2.1.map (aJ .u))),(1000000000,.var (bc .o v.2.2.2.2.2))]⟩
def Ey(a:Nat×Nat×List ByteArray×List aH×aG)(b:List ByteArray)(v:Nat×List ae×aG):St:=⟨[(2,.pt 2 0 0),(4,.pt 4 0 0),(5,.sl 5 0 v.1)],[(2,.var (.agg [.lst .u 1 [],.lst .u 4 []])),(4,.var (.agg [.lst .m 1 (b.map AV.z),.lst .m 4 (a.2.2.2.1.map (aC .m))])),(5,.arr 10 (v.2.1.map (ai .u))),(1000000000,.var (bc .o v.2.2))]⟩
instance(b:Nat×Nat×List ByteArray×List aH×aG)(c:List ByteArray):CL (Rk b c) qC [0,2,4,5,6,7] [2,4,5,6,1000000000] (TH b c) (qX 0 [2,4,5] [2,4,5,1000000000] (Ey b c)):=⟨fun g o h=>by
 have e:=ZA @TH.eq_1 @Ey.eq_1;unfold Rk at h;simp only[ZC,TH,qC];obtain⟨a,h⟩|⟨a,h⟩:=aw h
 ·obtain⟨k,i,h⟩:=ah h;refine ZF a ?_;refine ZWG a (CW.w _ i) [1000000000] [] ?_;obtain⟨l,j,h⟩:=ah h;refine ZF a ?_;refine ZWG a (CW.w _ j) [8,1000000000,1000000001] [3100008] ?_;obtain⟨d,h⟩|⟨d,h⟩:=aw h
  ·cases h;exact ZL (ZA a d) e
  ·cases h;exact ZL (ZA a d) e
 ·cases h;exact ZL a e⟩
instance(a:aG):CW (Sb a) (fun(r:af×Nat×Nat×List ae×aG)=>OkM A1 150 [.pt 1000000000 0 0] [(1000000000,.var (bc .o a))] (.tup [.agg [.lst .m 1 (((r.1).N).map AV.z),.lst .m 4 (((r.1).F).map (aC .m))],.sl 3 r.2.1 r.2.2.1]) ([(3,.arr 10 (r.2.2.2.1.map (ai .u))),(1000000000,.var (.agg [.lst .o 1 (((r.2.2.2.2).N).map AV.u8),.i ((r.2.2.2.2).F),.sc (.int .u64 ((r.2.2.2.2).L))]))])):=⟨fun r h=>by
 refine aU (lr:=[3,1000000000]) bH aez rfl rfl ?_;unfold Sb at h;simp only[ZC,Sh,mA];obtain⟨b,k,h⟩:=ah h;refine ZF trivial ?_;refine ZWG trivial (CW.w _ k) [500000128,500000129,1000000000] [501300128,501300129] ?_;obtain⟨g,l,h⟩:=bb h;have p:sub (b.2.2.1.map AV.z) b.1 b.2.1=g.map AV.z:=by rw[bN,l]
 obtain⟨j,c,h⟩:=bb h;have q:Row.arr 2 [(.agg [.i 3000,.i 10]:AV),(.agg [.i 900,.i 20]:AV)]=Row.arr 2 (j.map (aJ .u)):=by rw[<-c];rfl
 have d:j.length=2:=by rw[<-c];rfl
 obtain⟨v,s,h⟩:=ah h;have f:=ZA p (ZA q d);refine ZF f ?_;refine ZWG f (CW.w _ s) [1000000000] [] ?_;obtain⟨w,t,h⟩:=ah h;try refine ZF f ?_
 refine aF (bf (aN CL.w t ?_)) ?_
 ·exact ZK (ZA @TH.eq_1 (ZA @Ey.eq_1 (ZA c.symm d)))
 ·simp only[ZC,Ey,yL];cases h;exact ZL f (ZA @mA.eq_1 d)⟩
def Uw(b:af)(c:Int×aG)(a:Int×List Int×List Int×aG)(v:Int×List Int):St:=⟨[(0,.pt 1000000000 0 0),(3,.pt 3 0 0),(4,.pt 4 0 0),(6,.pt 6 0 0),(7,.sl 7 0 a.2.1.length),(8,.i a.1),(9,.sl 9 0 v.2.length),(10,.i v.1)],[(3,.var (ar .m b)),(4,.var (.agg [.i 0,.lst .u 1 []])),(6,.var (.agg [.i c.1,.sl 500000385 0 a.2.2.1.length])),(7,.arr 1 (a.2.1.map AV.i)),(9,.arr 1 (v.2.map AV.i)),(500000385,.arr 1 (a.2.2.1.map AV.i)),(1000000000,.var (bc .o a.2.2.2))]⟩
def No(b:af)(c:Int×aG)(a:Int×List Int×List Int×aG)(v:List Int):St:=⟨[(0,.pt 1000000000 0 0),(3,.pt 3 0 0),(4,.pt 4 0 0),(6,.pt 6 0 0),(7,.sl 7 0 a.2.1.length),(8,.i a.1),(9,.sl 9 0 v.length)],[(3,.var (ar .m b)),(4,.var (.agg [.i 0,.lst .u 1 []])),(6,.var (.agg [.i c.1,.sl 500000385 0 a.2.2.1.length])),(7,.arr 1 (a.2.1.map AV.i)),(9,.arr 1 (v.map AV.i)),(500000385,.arr 1 (a.2.2.1.map AV.i)),(1000000000,.var (bc .o a.2.2.2))]⟩
instance(d:af)(a:Int×List Int×List Int×aG):CX (Kf d a) nA [0,3,4,6,7,8,9,10] [3,4,6,7,9,500000385,1000000000] (Int×aG) (fun g=>(Uw d g a)) (fun g=>(qX 2 [0,3,4,6,7,8,9] [3,4,6,7,9,500000385,1000000000] (No d g a))):=⟨fun g c o h=>by
 unfold Kf at h;simp only[ZC,Uw,nA];exact ZT ZJB (ZA @Uw.eq_1 (ZA @No.eq_1 (ZA @nA.eq_1 @Aa.eq_1))) h⟩
def Xv(a:af)(b:Int×aG)(v:Int×List Int×List Int×aG):St:=⟨[(0,.pt 1000000000 0 0),(3,.pt 3 0 0),(4,.pt 4 0 0),(6,.pt 6 0 0),(7,.sl 7 0 v.2.1.length),(8,.i v.1)],[(3,.var (ar .m a)),(4,.var (.agg [.i 0,.lst .u 1 []])),(6,.var (.agg [.i b.1,.sl 500000385 0 v.2.2.1.length])),(7,.arr 1 (v.2.1.map AV.i)),(500000385,.arr 1 (v.2.2.1.map AV.i)),(1000000000,.var (bc .o v.2.2.2))]⟩
def EZ(a:Int×aG)(v:List Int×aG):St:=⟨[(4,.pt 4 0 0),(6,.pt 6 0 0)],[(4,.var (.agg [.i 0,.lst .u 1 []])),(6,.var (.agg [.i a.1,.sl 500000385 0 v.1.length])),(500000385,.arr 1 (v.1.map AV.i)),(1000000000,.var (bc .o v.2))]⟩
instance(d:af):CX (RL d) nD [0,3,4,6,7,8] [3,4,6,7,500000385,1000000000] (Int×aG) (fun g=>(Xv d g)) (fun g=>(qX 0 [4,6] [4,6,500000385,1000000000] (EZ g))):=⟨fun g a o h=>by
 unfold RL at h;simp only[ZC,Xv,nD];exact ZT ZJB (ZA @Xv.eq_1 (ZA @EZ.eq_1 (ZA @Uw.eq_1 (ZA @No.eq_1 (ZA @nD.eq_1 @zI.eq_1))))) h⟩
instance(a:af)(b:aG):CW (Ly a b) (fun(r:Int×List Int×aG)=>OkM A1 208 [.pt 1000000000 0 0,(ar .m a)] [(1000000000,.var (bc .o b))] (.agg [.i r.1,.sl 500000257 0 r.2.1.length]) ([(500000257,.arr 1 (r.2.1.map AV.i)),(1000000000,.var (.agg [.lst .o 1 (((r.2.2).N).map AV.u8),.i ((r.2.2).F),.sc (.int .u64 ((r.2.2).L))]))])):=⟨fun r h=>by
 refine aU (lr:=[500000257,1000000000]) bH agz rfl rfl ?_;unfold Ly at h;simp only[ZC,MY,oq];obtain⟨g,k,h⟩:=ah h;refine ZF trivial ?_;refine ZWG trivial (CW.w _ k) [1000000000] [] ?_;obtain⟨j,c,h⟩:=bb h;have l:Row.arr 1 [(.i g.1:AV)]=Row.arr 1 (j.map AV.i):=by rw[<-c];rfl
 have d:j.length=1:=by rw[<-c];rfl
 obtain⟨s,p,h⟩:=ah h;have f:=ZA l d;refine ZF f ?_;refine ZWG f (CW.w _ p) [1000000000] [] ?_;obtain⟨t,q,h⟩:=ah h;try refine ZF f ?_
 refine aF (bf (aN (CX.w g) q ?_)) ?_
 ·exact ZK (ZA @Xv.eq_1 (ZA @EZ.eq_1 (ZA c.symm d)))
 ·simp only[ZC,EZ,zm];cases h;exact ZL f (ZA @oq.eq_1 d)⟩
instance(p:af)(d:aG):CW (Ho p d) (fun(r:Int×List Int×aG)=>OkM A1 152 [.pt 1000000000 0 0,(ar .m p)] [(1000000000,.var (bc .o d))] (.agg [.i r.1,.sl 500000257 0 r.2.1.length]) ([(500000257,.arr 1 (r.2.1.map AV.i)),(1000000000,.var (.agg [.lst .o 1 (((r.2.2).N).map AV.u8),.i ((r.2.2).F),.sc (.int .u64 ((r.2.2).L))]))])):=⟨fun r h=>by
 have e:=@oq.eq_1;refine aU (lr:=[500000257,1000000000]) bH acv rfl rfl ?_;unfold Ho at h;simp only[ZC,RG,oq];obtain⟨g,i1,h⟩:=ah h;refine ZF trivial ?_;refine ZWG trivial (CW.w _ i1) [500000257,1000000000] [500900257] ?_;obtain⟨a2,j1,h⟩:=ah h;refine ZF trivial ?_;refine ZWG trivial (CW.w _ j1) [1000000000] [] ?_;obtain⟨a,h⟩|⟨a,h⟩:=aw h
 ·obtain⟨b2,k1,h⟩:=ah h;refine ZF a ?_;refine ZWG a (CW.w _ k1) [1000000000] [] ?_;cases h;exact ZL a e
 ·obtain⟨b,h⟩|⟨b,h⟩:=aw h
  ·obtain⟨l1,m1,h⟩:=ah h;have f:=ZA a b;refine ZF f ?_;refine ZWG f (CW.w _ m1) [1000000000] [] ?_;obtain⟨q,j,h⟩:=bb h;have p1:Row.arr 1 [(.i (B1 .i64 (l1.1-1)):AV)]=Row.arr 1 (q.map AV.i):=by rw[<-j];rfl
   have w:q.length=1:=by rw[<-j];rfl
   obtain⟨c2,q1,h⟩:=ah h;have x:=aY q1;obtain⟨y,s,h⟩:=bb h;have s1:g.2.1.map AV.i++q.map AV.i=y.map AV.i:=by rw[<-s,A5]
   have a1:g.2.1.length+1=y.length:=by simp[<-j,<-s]<;>omega
   rw[a1] at x;cases h;exact ZL (ZA f (ZA p1 (ZA w (ZA x (ZA s1 a1))))) (ZA e (ZA j.symm (ZA s.symm w)))
  ·obtain⟨c,h⟩|⟨c,h⟩:=aw h
   ·cases h;exact ZL (ZA a (ZA b c)) e
   ·obtain⟨k,h⟩|⟨k,h⟩:=aw h
    ·obtain⟨t,h⟩|⟨t,h⟩:=aw h
     ·obtain⟨d2,t1,h⟩:=ah h;obtain⟨u1,v1,h⟩:=ah h;obtain⟨u,l,h⟩:=bb h;have w1:Row.arr 1 [(.i u1:AV)]=Row.arr 1 (u.map AV.i):=by rw[<-l];rfl
      have b1:u.length=1:=by rw[<-l];rfl
      obtain⟨g2,y1,h⟩:=ah h;have c1:=aY y1;obtain⟨d1,v,h⟩:=bb h;have z1:g.2.1.map AV.i++u.map AV.i=d1.map AV.i:=by rw[<-v,A5]
      have g1:g.2.1.length+1=d1.length:=by simp[<-l,<-v]<;>omega
      rw[g1] at c1;cases h;exact ZL (ZA a (ZA b (ZA c (ZA k (ZA t (ZA (aY t1) (ZA v1 (ZA w1 (ZA b1 (ZA c1 (ZA z1 g1))))))))))) (ZA e (ZA l.symm (ZA v.symm b1)))
     ·cases h;exact ZL (ZA a (ZA b (ZA c (ZA k t)))) e
    ·cases h;exact ZL (ZA a (ZA b (ZA c k))) e⟩
instance(b:aG):CW (Gh b) (fun(r:aD×aG)=>OkM A1 153 [.pt 1000000000 0 0] [(1000000000,.var (bc .o b))] (.agg [.i ((r.1).N),.i ((r.1).F)]) ([(1000000000,.var (.agg [.lst .o 1 (((r.2).N).map AV.u8),.i ((r.2).F),.sc (.int .u64 ((r.2).L))]))])):=⟨fun r h=>by
 refine aU (lr:=[1000000000]) bH afb rfl rfl ?_;unfold Gh at h;simp only[ZC,MO,dL];exact ZT trivial @dL.eq_1 h⟩
instance(a:aG)(b:List ByteArray):CW (PT a b) (fun(r:ByteArray×aG×List ByteArray)=>OkM A1 210 [.pt 1000000000 0 0,.sl 1000000001 0 b.length] [(1000000000,.var (bc .o a)),(1000000001,.arr 1 (b.map AV.z))] (.z r.1) ([(1000000000,.var (.agg [.lst .o 1 (((r.2.1).N).map AV.u8),.i ((r.2.1).F),.sc (.int .u64 ((r.2.1).L))])),(1000000001,.arr 1 (r.2.2.map AV.z))])):=⟨fun r h=>by
 refine aU (lr:=[1000000000,1000000001]) bH adh rfl rfl ?_;unfold PT at h;simp only[ZC,MR,aK];exact ZT trivial @aK.eq_1 h⟩
def VI(a:Nat×Nat×List ByteArray×List aH×aG)(v:List aH×aG):St:=⟨[(0,.pt 1000000000 0 0),(2,.pt 2 0 0),(3,.pt 3 0 0)],[(2,.var (.agg [.lst .u 1 [],.lst .u 4 []])),(3,.var (.agg [.sl 500000192 a.1 a.2.1,.sl 500000193 0 v.1.length])),(500000192,.arr 1 (a.2.2.1.map AV.z)),(500000193,.arr 4 (v.1.map (aC .u))),(1000000000,.var (bc .o v.2))]⟩
def FY(a:Nat×Nat×List ByteArray×List aH×aG)(v:List aH×aG):St:=⟨[(2,.pt 2 0 0),(3,.pt 3 0 0)],[(2,.var (.agg [.lst .u 1 [],.lst .u 4 []])),(3,.var (.agg [.sl 500000192 a.1 a.2.1,.sl 500000193 0 v.1.length])),(500000192,.arr 1 (a.2.2.1.map AV.z)),(500000193,.arr 4 (v.1.map (aC .u))),(1000000000,.var (bc .o v.2))]⟩
instance:CX (JX) mL [0,2,3] [2,3,500000192,500000193,1000000000] (Nat×Nat×List ByteArray×List aH×aG) (fun d=>(VI d)) (fun d=>(qX 1 [2,3] [2,3,500000192,500000193,1000000000] (FY d))):=⟨fun d a o h=>by
 unfold JX at h;simp only[ZC,VI,mL];exact ZT ZJB (ZA @VI.eq_1 (ZA @FY.eq_1 @mL.eq_1)) h⟩
instance(p:aG):CW (Pq p) (fun(r:Nat×Nat×List ByteArray×List aH×aG)=>OkM A1 154 [.pt 1000000000 0 0] [(1000000000,.var (bc .o p))] (.agg [.sl 500000128 r.1 r.2.1,.sl 500000129 0 r.2.2.2.1.length]) ([(500000128,.arr 1 (r.2.2.1.map AV.z)),(500000129,.arr 4 (r.2.2.2.1.map (aC .u))),(1000000000,.var (.agg [.lst .o 1 (((r.2.2.2.2).N).map AV.u8),.i ((r.2.2.2.2).F),.sc (.int .u64 ((r.2.2.2.2).L))]))])):=⟨fun r h=>by
 refine aU (lr:=[500000128,500000129,1000000000]) bH acq rfl rfl ?_;unfold Pq at h;simp only[ZC,Qw,dL];obtain⟨c,c2,h⟩:=ah h;refine ZF trivial ?_;refine ZWG trivial (CW.w _ c2) [500000128,500000129,1000000000] [500800128,500800129] ?_;obtain⟨k,h⟩|⟨k,h⟩:=aw h
 ·cases h;exact ZL k @dL.eq_1
 ·obtain⟨j1,d2,h⟩:=ah h;refine ZF k ?_;refine ZWG k (CW.w _ d2) [1000000000] [] ?_;obtain⟨a4,g2,h⟩:=ah h;obtain⟨b4,i2,h⟩:=ah h;obtain⟨j2,k2,h⟩:=ah h;have f:=ZA k (ZA (aY g2) i2);try refine ZF f ?_
  refine cm (sh:=(fun v=>⟨[(2,.pt 2 0 0),(3,.pt 3 0 0),(4,.i j1.1),(5,.pt 5 0 0)],[(2,.var (.agg [.lst .u 1 [],.lst .u 4 []])),(3,.var (.agg [.sl 500000192 v.1 v.2.1,.sl 500000193 0 v.2.2.2.2.1.length])),(5,.var (aC .o v.2.2.1)),(500000192,.arr 1 (v.2.2.2.1.map AV.z)),(500000193,.arr 4 (v.2.2.2.2.1.map (aC .u))),(1000000000,.var (bc .o v.2.2.2.2.2))]⟩)) (q:=(qM dL [500000128,500000129,1000000000] (fun(r:Nat×Nat×List ByteArray×List aH×aG)=>.agg [.sl 500000128 r.1 r.2.1,.sl 500000129 0 r.2.2.2.1.length]) (fun(r:Nat×Nat×List ByteArray×List aH×aG)=>[(500000128,.arr 1 (r.2.2.1.map AV.z)),(500000129,.arr 4 (r.2.2.2.1.map (aC .u))),(1000000000,.var (.agg [.lst .o 1 (((r.2.2.2.2).N).map AV.u8),.i ((r.2.2.2.2).F),.sc (.int .u64 ((r.2.2.2.2).L))]))]))) (o:=j2) ?_ (fun l hv=>?_) (fun c4 hv e τ hne hq=>?_)
  ·replace h:=k2;obtain⟨d4,l2,h⟩:=ah h;refine ZF f ?_;refine ZWG f (CW.w _ l2) [1000000000] [] ?_;obtain⟨a,h⟩|⟨a,h⟩:=aw h
   ·obtain⟨k1,x,h⟩:=bb h;have m2:Row.arr 1 [(.z (⟨#[98]⟩:ByteArray):AV),(.z (⟨#[]⟩:ByteArray):AV),(.z (⟨#[65]⟩:ByteArray):AV),(.z (⟨#[97,98,99,100,101,102,103,104]⟩:ByteArray):AV),(.z (⟨#[97,98,99,100,101,102,103,104,105]⟩:ByteArray):AV),(.z (⟨#[120,49]⟩:ByteArray):AV)]=Row.arr 1 (k1.map AV.z):=by rw[<-x];rfl
    have l1:k1.length=6:=by rw[<-x];rfl
    obtain⟨p2,q2,h⟩:=ah h;have f:=ZA f (ZA a (ZA m2 l1));refine ZF f ?_;refine ZWG f (CW.w _ q2) [1000000000,1000000001] [] ?_;obtain⟨g4,s2,h⟩:=ah h;obtain⟨i4,t2,h⟩:=ah h;obtain⟨u2,m1,h⟩:=bb h;have v2:(c.2.2.1.map AV.z).set (c.1+(B5 0)) (.z p2.1)=u2.map AV.z:=by rw[<-m1,B7]
    cases h;exact ZL (ZA f (ZA (aY s2) (ZA t2 v2))) (ZA x.symm (ZA m1.symm l1))
   ·obtain⟨b,h⟩|⟨b,h⟩:=aw h
    ·obtain⟨j4,w2,h⟩:=ah h;have f:=ZA f (ZA a b);refine ZF f ?_;refine ZWG f (CW.w _ w2) [1000000000] [] ?_;cases h;exact ZL f trivial
    ·obtain⟨d,h⟩|⟨d,h⟩:=aw h
     ·obtain⟨k4,x2,h⟩:=ah h;have f:=ZA f (ZA a (ZA b d));refine ZF f ?_;refine ZWG f (CW.w _ x2) [1000000000] [] ?_;cases h;exact ZL f trivial
     ·obtain⟨g,h⟩|⟨g,h⟩:=aw h
      ·obtain⟨p1,y,h⟩:=bb h;have y2:Row.arr 1 [(.i 0:AV),(.i 1:AV),(.i 5000:AV),(.i 5001:AV)]=Row.arr 1 (p1.map AV.i):=by rw[<-y];rfl
       have q1:p1.length=4:=by rw[<-y];rfl
       obtain⟨l4,z2,h⟩:=ah h;have f:=ZA f (ZA a (ZA b (ZA d (ZA g (ZA y2 q1)))));refine ZF f ?_;refine ZWG f (CW.w _ z2) [1000000000,1000000001] [] ?_;cases h;exact ZL f (ZA y.symm q1)
      ·obtain⟨j,h⟩|⟨j,h⟩:=aw h
       ·obtain⟨s1,a1,h⟩:=bb h;have a3:Row.arr 1 [(.i (-1):AV),(.i 9:AV),(.i 10:AV)]=Row.arr 1 (s1.map AV.i):=by rw[<-a1];rfl
        have t1:s1.length=3:=by rw[<-a1];rfl
        obtain⟨p4,b3,h⟩:=ah h;have f:=ZA f (ZA a (ZA b (ZA d (ZA g (ZA j (ZA a3 t1))))));refine ZF f ?_;refine ZWG f (CW.w _ b3) [1000000000,1000000001] [] ?_;cases h;exact ZL f (ZA a1.symm t1)
       ·obtain⟨m,h⟩|⟨m,h⟩:=aw h
        ·obtain⟨q4,c3,h⟩:=ah h;obtain⟨s,d3,h⟩:=ah h;obtain⟨b1,t,h⟩:=bb h;have g3:Row.arr 4 [(.agg [.i s.A,.i s.B,.i s.N,.i s.F]:AV)]=Row.arr 4 (b1.map (aC .u)):=by rw[<-t];rfl
         have u1:b1.length=1:=by rw[<-t];rfl
         obtain⟨s4,i3,h⟩:=ah h;have v1:=aY i3;obtain⟨w1,c1,h⟩:=bb h;have j3:c.2.2.2.1.map (aC .u)++b1.map (aC .u)=w1.map (aC .u):=by rw[<-c1,A5]
         have y1:c.2.2.2.1.length+1=w1.length:=by simp[<-t,<-c1]<;>omega
         rw[y1] at v1;cases h;exact ZL (ZA f (ZA a (ZA b (ZA d (ZA g (ZA j (ZA m (ZA (aY c3) (ZA d3 (ZA g3 (ZA u1 (ZA v1 (ZA j3 y1))))))))))))) (ZA t.symm (ZA c1.symm u1))
        ·obtain⟨w,h⟩|⟨w,h⟩:=aw h
         ·obtain⟨t4,k3,h⟩:=ah h;have f:=ZA f (ZA a (ZA b (ZA d (ZA g (ZA j (ZA m w))))));try refine ZF f ?_
          refine aF (bf (aN (CX.w c) k3 ?_)) ?_
          ·exact ZK (ZA @VI.eq_1 @FY.eq_1)
          ·simp only[ZC,FY,yG];cases h;exact ZL f @dL.eq_1
         ·obtain⟨d1,h⟩|⟨d1,h⟩:=aw h
          ·obtain⟨g1,i1,h⟩:=bb h;have l3:Row.arr 1 [(.z (⟨#[112]⟩:ByteArray):AV),(.z (⟨#[113]⟩:ByteArray):AV),(.z (⟨#[114]⟩:ByteArray):AV),(.z (⟨#[115]⟩:ByteArray):AV)]=Row.arr 1 (g1.map AV.z):=by rw[<-i1];rfl
           have z1:g1.length=4:=by rw[<-i1];rfl
           obtain⟨a2,m3,h⟩:=bb h;have p3:sub (c.2.2.1.map AV.z) c.1 c.2.1=a2.map AV.z:=by rw[bN,m3]
           obtain⟨u4,q3,h⟩:=ah h;obtain⟨s3,t3,h⟩:=bb h;have u3:a2.map AV.z++g1.map AV.z=s3.map AV.z:=by rw[<-t3,A5]
           cases h;exact ZL (ZA f (ZA a (ZA b (ZA d (ZA g (ZA j (ZA m (ZA w (ZA d1 (ZA l3 (ZA z1 (ZA p3 (ZA (aY q3) u3))))))))))))) (ZA i1.symm z1)
          ·cases h;exact ZL (ZA f (ZA a (ZA b (ZA d (ZA g (ZA j (ZA m (ZA w d1)))))))) trivial
  ·subst hv;simp only[] at h;simp only[ZC,AQ];obtain⟨v4,v3,h⟩:=ah h;obtain⟨w4,w3,h⟩:=ah h;obtain⟨x3,b2,h⟩:=bb h;have y3:(l.2.2.2.2.1.map (aC .u)).set (B5 j1.1) (.agg [.i ((l.2.2.1).A),.i ((l.2.2.1).B),.i ((l.2.2.1).N),.i ((l.2.2.1).F)])=x3.map (aC .u):=by rw[<-b2,B7];rfl
   cases h;exact ZL (ZA f (ZA (aY v3) (ZA w3 y3))) (ZA @dL.eq_1 b2.symm)
  ·subst hv;simp only[] at h;obtain⟨rfl,z3⟩:=hq;cases h;exact z3⟩
instance(q:aG):CW (MP q) (fun(r:af×Nat×Nat×List ae×aG)=>OkM A1 82 [.pt 1000000000 0 0] [(1000000000,.var (bc .o q))] (.tup [.agg [.lst .m 1 (((r.1).N).map AV.z),.lst .m 4 (((r.1).F).map (aC .m))],.sl 3 r.2.1 r.2.2.1]) ([(3,.arr 10 (r.2.2.2.1.map (ai .m))),(1000000000,.var (.agg [.lst .o 1 (((r.2.2.2.2).N).map AV.u8),.i ((r.2.2.2.2).F),.sc (.int .u64 ((r.2.2.2.2).L))]))])):=⟨fun r h=>by
 refine aU (lr:=[3,1000000000]) bH aid rfl rfl ?_;unfold MP at h;simp only[ZC,ZR,mA];obtain⟨w,m1,h⟩:=ah h;refine ZF trivial ?_;refine ZWG trivial (CW.w _ m1) [3,1000000000] [1100003] ?_;obtain⟨l,h⟩|⟨l,h⟩:=aw h
 ·cases h;exact ZL l @mA.eq_1
 ·obtain⟨d1,p1,h⟩:=ah h;refine ZF l ?_;refine ZWG l (CW.w _ p1) [1000000000] [] ?_;obtain⟨y2,q1,h⟩:=ah h;obtain⟨b,s1,h⟩:=ah h;obtain⟨a,t1,h⟩:=ah h;have f:=ZA l (ZA (aY q1) s1);try refine ZF f ?_
  refine aF (sh:=(fun v=>⟨[(2,.pt 2 0 0),(4,.pt 4 0 0),(5,.sl 5 v.1 v.2.1),(6,.i d1.1),(7,.pt 7 0 0)],[(2,.var (.agg [.lst .u 1 [],.lst .u 4 []])),(4,.var (ar .m v.2.2.1)),(5,.arr 10 (v.2.2.2.1.map (ai .m))),(7,.var (ai .m v.2.2.2.2.1)),(1000000000,.var (bc .o v.2.2.2.2.2))]⟩)) (s:=a) ?_ ?_
  ·replace h:=t1;obtain⟨z2,u1,h⟩:=ah h;refine ZF f ?_;refine ZWG f (CW.w _ u1) [1000000000] [] ?_;obtain⟨c,h⟩|⟨c,h⟩:=aw h
   ·obtain⟨g1,x,h⟩:=bb h;have v1:Row.arr 1 [(.i 0:AV),(.i 999:AV),(.i 1000:AV),(.i 500:AV),(.i 1:AV)]=Row.arr 1 (g1.map AV.i):=by rw[<-x];rfl
    have i1:g1.length=5:=by rw[<-x];rfl
    obtain⟨a3,w1,h⟩:=ah h;have f:=ZA f (ZA c (ZA v1 i1));refine ZF f ?_;refine ZWG f (CW.w _ w1) [1000000000,1000000001] [] ?_;cases h;exact ZL f (ZA x.symm i1)
   ·obtain⟨d,h⟩|⟨d,h⟩:=aw h
    ·obtain⟨b3,y1,h⟩:=ah h;have f:=ZA f (ZA c d);refine ZF f ?_;refine ZWG f (CW.w _ y1) [1000000000] [] ?_;cases h;exact ZL f trivial
    ·obtain⟨g,h⟩|⟨g,h⟩:=aw h
     ·obtain⟨c3,z1,h⟩:=ah h;have f:=ZA f (ZA c (ZA d g));refine ZF f ?_;refine ZWG f (CW.w _ z1) [500000257,1000000000] [504500257] ?_;cases h;exact ZL f trivial
     ·obtain⟨j,h⟩|⟨j,h⟩:=aw h
      ·obtain⟨d3,a2,h⟩:=ah h;have f:=ZA f (ZA c (ZA d (ZA g j)));refine ZF f ?_;refine ZWG f (CW.w _ a2) [1000000000] [] ?_;cases h;exact ZL f trivial
      ·obtain⟨k,h⟩|⟨k,h⟩:=aw h
       ·obtain⟨g3,b2,h⟩:=ah h;have f:=ZA f (ZA c (ZA d (ZA g (ZA j k))));refine ZF f ?_;refine ZWG f (CW.w _ b2) [500000257,1000000000] [505600257] ?_;cases h;exact ZL f trivial
       ·obtain⟨p,h⟩|⟨p,h⟩:=aw h
        ·obtain⟨i3,c2,h⟩:=ah h;have f:=ZA f (ZA c (ZA d (ZA g (ZA j (ZA k p)))));refine ZF f ?_;refine ZWG f (CW.w _ c2) [1000000000] [] ?_;cases h;exact ZL f trivial
        ·obtain⟨t,h⟩|⟨t,h⟩:=aw h
         ·obtain⟨y,a1,h⟩:=bb h;have d2:Row.arr 10 [(.agg [.i b.Id,.i b.W,.i b.N.N,.lst .m 1 (b.N.F.map AV.i),.i b.P.N,.i b.P.F,.i b.F.N,.lst .m 1 (b.F.F.map AV.i),.i b.L.N,.i b.L.F]:AV)]=Row.arr 10 (y.map (ai .m)):=by rw[<-a1];rfl
          have j1:y.length=1:=by rw[<-a1];rfl
          obtain⟨k1,g2,h⟩:=bb h;have i2:sub (w.2.2.2.1.map (ai .m)) w.2.1 w.2.2.1=k1.map (ai .m):=by rw[bN,g2]
          obtain⟨j3,j2,h⟩:=ah h;obtain⟨k2,l2,h⟩:=bb h;have m2:k1.map (ai .m)++y.map (ai .m)=k2.map (ai .m):=by rw[<-l2,A5]
          cases h;exact ZL (ZA f (ZA c (ZA d (ZA g (ZA j (ZA k (ZA p (ZA t (ZA d2 (ZA j1 (ZA i2 (ZA (aY j2) m2)))))))))))) (ZA a1.symm j1)
         ·obtain⟨b1,h⟩|⟨b1,h⟩:=aw h
          ·obtain⟨c1,p2,h⟩:=ah h;have f:=ZA f (ZA c (ZA d (ZA g (ZA j (ZA k (ZA p (ZA t b1)))))));refine ZF f ?_;refine ZWG f (CW.w _ p2) [500000128,500000129,1000000000] [507200128,507200129] ?_;obtain⟨q2,s2,h⟩:=bb h;have t2:sub (c1.2.2.1.map AV.z) c1.1 c1.2.1=q2.map AV.z:=by rw[bN,s2]
           cases h;exact ZL (ZA f t2) trivial
          ·cases h;exact ZL (ZA f (ZA c (ZA d (ZA g (ZA j (ZA k (ZA p (ZA t b1)))))))) trivial
  ·simp only[ZC,DD];obtain⟨k3,u2,h⟩:=ah h;obtain⟨l3,v2,h⟩:=ah h;obtain⟨w2,l1,h⟩:=bb h;have x2:(a.2.2.2.1.map (ai .m)).set (a.1+(B5 d1.1)) (.agg [.i ((a.2.2.2.2.1).Id),.i ((a.2.2.2.2.1).W),.i (((a.2.2.2.2.1).N).N),.lst .m 1 ((((a.2.2.2.2.1).N).F).map AV.i),.i (((a.2.2.2.2.1).P).N),.i (((a.2.2.2.2.1).P).F),.i (((a.2.2.2.2.1).F).N),.lst .m 1 ((((a.2.2.2.2.1).F).F).map AV.i),.i (((a.2.2.2.2.1).L).N),.i (((a.2.2.2.2.1).L).F)])=w2.map (ai .m):=by rw[<-l1,B7];rfl
   cases h;exact ZL (ZA f (ZA (aY u2) (ZA v2 x2))) (ZA @mA.eq_1 l1.symm)⟩
def Tc(v:Nat×Nat×Int×List aA×aG):St:=⟨[(0,.pt 1000000000 0 0),(3,.sl 3 v.1 v.2.1),(6,.i v.2.2.1)],[(3,.arr 2 (v.2.2.2.1.map (aJ .u))),(1000000000,.var (bc .o v.2.2.2.2))]⟩
def EN(v:Nat×Nat×List aA×aG):St:=⟨[(3,.sl 3 v.1 v.2.1)],[(3,.arr 2 (v.2.2.1.map (aJ .u))),(1000000000,.var (bc .o v.2.2.2))]⟩
instance:CL (Ju) pW [0,3,6] [3,1000000000] (Tc) (qX 1 [3] [3,1000000000] (EN)):=⟨fun a o h=>by
 unfold Ju at h;simp only[ZC,Tc,pW];exact ZT ZJB (ZA @Tc.eq_1 (ZA @EN.eq_1 @pW.eq_1)) h⟩
instance(j:aG):CW (KF j) (fun(r:Nat×Nat×List aA×aG)=>OkM A1 83 [.pt 1000000000 0 0] [(1000000000,.var (bc .o j))] (.sl 2 r.1 r.2.1) ([(2,.arr 2 (r.2.2.1.map (aJ .u))),(1000000000,.var (.agg [.lst .o 1 (((r.2.2.2).N).map AV.u8),.i ((r.2.2.2).F),.sc (.int .u64 ((r.2.2.2).L))]))])):=⟨fun r h=>by
 refine aU (lr:=[2,1000000000]) bH ahb rfl rfl ?_;unfold KF at h;simp only[ZC,YK,V10];obtain⟨c,d,h⟩:=bb h;have i1:Row.arr 2 [(.agg [.i 3000,.i 10]:AV),(.agg [.i 1200,.i 20]:AV),(.agg [.i 600,.i 40]:AV),(.agg [.i 250,.i 80]:AV)]=Row.arr 2 (c.map (aJ .u)):=by rw[<-d];rfl
 have a:c.length=4:=by rw[<-d];rfl
 obtain⟨j2,j1,h⟩:=ah h;have f:=ZA i1 a;refine ZF f ?_;refine ZWG f (CW.w _ j1) [1000000000] [] ?_;obtain⟨k2,k1,h⟩:=ah h;obtain⟨k,l1,h⟩:=ah h;have f:=ZA f (aY k1);try refine ZF f ?_
 refine aF (sh:=(fun v=>⟨[(0,.pt 1000000000 0 0),(3,.sl 3 v.1 v.2.1)],[(3,.arr 2 (c.map (aJ .u))),(1000000000,.var (bc .o v.2.2))]⟩)) (s:=k) ?_ ?_
 ·replace h:=l1;obtain⟨l2,m1,h⟩:=ah h;refine ZF f ?_;refine ZWG f (CW.w _ m1) [1000000000] [] ?_;obtain⟨m,h⟩|⟨m,h⟩:=aw h
  ·have f:=ZA f m;try refine ZF f ?_
   simp only[ZC,vH];obtain⟨p,h⟩|⟨p,h⟩:=aw h
   ·obtain⟨m2,p1,h⟩:=ah h;cases h;exact ZL (ZA f (ZA p (aY p1))) (ZA d.symm a)
   ·cases h;exact ZL (ZA f p) (ZA d.symm a)
  ·have f:=ZA f m;try refine ZF f ?_
   simp only[ZC,vH];cases h;exact ZL f (ZA d.symm a)
 ·simp only[ZC,Ez];obtain⟨y,q1,h⟩:=ah h;refine ZF f ?_;refine ZWG f (CW.w _ q1) [1000000000] [] ?_;obtain⟨p2,s1,h⟩:=ah h;obtain⟨q2,t1,h⟩:=ah h;obtain⟨u1,v1,h⟩:=ah h;have f:=ZA f (ZA (aY s1) t1);try refine ZF f ?_
  refine cm (sh:=(fun v=>⟨[(3,.sl 3 k.1 k.2.1),(4,.i y.1),(5,.pt 5 0 0)],[(3,.arr 2 (c.map (aJ .u))),(5,.var (aJ .o v.1)),(1000000000,.var (bc .o v.2))]⟩)) (q:=(qM V10 [2,1000000000] (fun(r:Nat×Nat×List aA×aG)=>.sl 2 r.1 r.2.1) (fun(r:Nat×Nat×List aA×aG)=>[(2,.arr 2 (r.2.2.1.map (aJ .u))),(1000000000,.var (.agg [.lst .o 1 (((r.2.2.2).N).map AV.u8),.i ((r.2.2.2).F),.sc (.int .u64 ((r.2.2.2).L))]))]))) (o:=u1) ?_ (fun z hv=>?_) (fun s2 hv e τ hne hq=>?_)
  ·replace h:=v1;obtain⟨t2,w1,h⟩:=ah h;refine ZF f ?_;refine ZWG f (CW.w _ w1) [1000000000] [] ?_;obtain⟨b,h⟩|⟨b,h⟩:=aw h
   ·obtain⟨a1,t,h⟩:=bb h;have y1:Row.arr 1 [(.i 0:AV),(.i 20000:AV),(.i 20001:AV),(.i 250:AV)]=Row.arr 1 (a1.map AV.i):=by rw[<-t];rfl
    have b1:a1.length=4:=by rw[<-t];rfl
    obtain⟨u2,z1,h⟩:=ah h;have f:=ZA f (ZA b (ZA y1 b1));refine ZF f ?_;refine ZWG f (CW.w _ z1) [1000000000,1000000001] [] ?_;cases h;exact ZL f (ZA t.symm (ZA a b1))
   ·obtain⟨g,h⟩|⟨g,h⟩:=aw h
    ·obtain⟨c1,w,h⟩:=bb h;have a2:Row.arr 1 [(.i 0:AV),(.i 1000:AV),(.i 1001:AV),(.i 10:AV)]=Row.arr 1 (c1.map AV.i):=by rw[<-w];rfl
     have d1:c1.length=4:=by rw[<-w];rfl
     obtain⟨v2,b2,h⟩:=ah h;have f:=ZA f (ZA b (ZA g (ZA a2 d1)));refine ZF f ?_;refine ZWG f (CW.w _ b2) [1000000000,1000000001] [] ?_;cases h;exact ZL f (ZA w.symm (ZA a d1))
    ·obtain⟨l,h⟩|⟨l,h⟩:=aw h
     ·cases h;exact ZL (ZA f (ZA b (ZA g l))) (ZA @V10.eq_1 a)
     ·obtain⟨x,h⟩|⟨x,h⟩:=aw h
      ·obtain⟨w2,c2,h⟩:=ah h;have f:=ZA f (ZA b (ZA g (ZA l x)));try refine ZF f ?_
       refine aF (bf (aN CL.w c2 ?_)) ?_
       ·exact ZK (ZA @Tc.eq_1 (ZA @EN.eq_1 a))
       ·simp only[ZC,EN,Eb];cases h;exact ZL f (ZA @V10.eq_1 a)
      ·cases h;exact ZL (ZA f (ZA b (ZA g (ZA l x)))) a
  ·subst hv;simp only[] at h;simp only[ZC,FA];obtain⟨d2,g1,h⟩:=bb h;have g2:(c.map (aJ .u)).set (k.1+(B5 y.1)) (.agg [.i ((z.1).N),.i ((z.1).F)])=d2.map (aJ .u):=by rw[<-g1,B7];rfl
   cases h;exact ZL (ZA f g2) (ZA @V10.eq_1 (ZA g1.symm a))
  ·subst hv;simp only[] at h;obtain⟨rfl,i2⟩:=hq;cases h;exact i2⟩
instance(a:List Int):CW (MF a) (fun(r:af×Nat×Nat×Nat×Nat×aO×List aA×List ae)=>OkM A1 21 [.lst .o 1 (a.map AV.u8)] [] (.tup [.agg [.lst .m 1 (((r.1).N).map AV.z),.lst .m 4 (((r.1).F).map (aC .m))],.sl 3 r.2.1 r.2.2.1,.sl 4 r.2.2.2.1 r.2.2.2.2.1,.agg [.i ((r.2.2.2.2.2.1).N),.i ((r.2.2.2.2.2.1).L),.i ((r.2.2.2.2.2.1).F),.i ((r.2.2.2.2.2.1).W)]]) ([(3,.arr 2 (r.2.2.2.2.2.2.1.map (aJ .u))),(4,.arr 10 (r.2.2.2.2.2.2.2.map (ai .m)))])):=⟨fun r h=>by
 refine aU (lr:=[3,4]) bH ahh rfl rfl ?_;unfold MF at h;simp only[ZC,YZ,QU];obtain⟨g,b,h⟩:=ah h;refine ZF trivial ?_;refine ZWG trivial (CW.w _ b) [3,1000000000] [1500003] ?_;obtain⟨j,c,h⟩:=ah h;refine ZF trivial ?_;refine ZWG trivial (CW.w _ c) [2,1000000000] [2000002] ?_;obtain⟨k,d,h⟩:=ah h;refine ZF trivial ?_;refine ZWG trivial (CW.w _ d) [1000000000] [] ?_;cases h;exact ZL trivial @QU.eq_1⟩
instance(c:Int)(d:Int)(g:Int):CW (M_h c d g) (fun(r:Bool)=>Ok A1 76 [.i c,.i d,.i g] (.b r)):=⟨fun r h=>ZO m76 (M_h.eq_1 _ _ _) trivial (ZA @dt.eq_1 @A76.eq_1) h⟩
def Yk(a:ByteArray)(v:Int):St:=⟨[(0,.z a),(7,.i (a.size:Int)),(8,.i v)],[]⟩
def OB(a:ByteArray)(v:Unit):St:=⟨[(0,.z a)],[]⟩
instance(c:ByteArray):CL (IJ c) BA [0,7,8] [] (Yk c) (qS (qX 0 [0] [] (OB c)) (qR V10 (fun r=>.b r))):=⟨fun j o h=>by
 have e:=ZA @Yk.eq_1 @OB.eq_1;unfold IJ at h;simp only[ZC,Yk,BA];obtain⟨a,h⟩|⟨a,h⟩:=aw h
 ·obtain⟨t,u,h⟩:=ah h;try refine ZF a ?_
  refine aF (sh:=(fun v=>⟨[(0,.z c),(3,.i j),(4,.b v.1),(5,.b v.2),(7,.i (c.size:Int)),(8,.i j)],[]⟩)) (s:=t) ?_ ?_
  ·replace h:=u;obtain⟨w,k,h⟩:=ah h;obtain⟨d,h⟩|⟨d,h⟩:=aw h
   ·obtain⟨m,h⟩|⟨m,h⟩:=aw h
    ·cases h;exact ZL (ZA a (ZA (rX k) (ZA d m))) trivial
    ·cases h;exact ZL (ZA a (ZA (rX k) (ZA d m))) trivial
   ·obtain⟨p,h⟩|⟨p,h⟩:=aw h
    ·cases h;exact ZL (ZA a (ZA (rX k) (ZA d p))) trivial
    ·cases h;exact ZL (ZA a (ZA (rX k) (ZA d p))) trivial
  ·simp only[ZC,Kt];obtain⟨g,h⟩|⟨g,h⟩:=aw h
   ·obtain⟨l,h⟩|⟨l,h⟩:=aw h
    ·cases h;exact ZL (ZA a (ZA g l)) @V10.eq_1
    ·obtain⟨q,h⟩|⟨q,h⟩:=aw h
     ·cases h;exact ZL (ZA a (ZA g (ZA l q))) @V10.eq_1
     ·cases h;exact ZL (ZA a (ZA g (ZA l q))) e
   ·cases h;exact ZL (ZA a g) e
 ·cases h;exact ZL a e⟩
instance(a:ByteArray):CW (Lt a) (fun(r:Bool)=>Ok A1 147 [.z a] (.b r)):=⟨fun r h=>ZO m147 (Lt.eq_1 _) ZJ (ZA @Yk.eq_1 (ZA @OB.eq_1 (ZA @QB.eq_1 (ZA @V10.eq_1 @A147.eq_1)))) h⟩
def UG(a:List ByteArray)(b:ByteArray)(v:Int):St:=⟨[(0,.lst .o 1 (a.map AV.z)),(1,.z b),(7,.i (a.length:Int)),(8,.i v)],[]⟩
instance(b:List ByteArray)(c:ByteArray):CL (IZ b c) vK [0,1,7,8] [] (UG b c) (qS (qX 0 [] [] (cK)) (qR aK (fun r=>.i r))):=⟨fun g o h=>by
 unfold IZ at h;simp only[ZC,UG,vK];exact ZT trivial (ZA @UG.eq_1 (ZA @cK.eq_1 (ZA @aK.eq_1 @vK.eq_1))) h⟩
instance(a:List ByteArray)(b:ByteArray):CW (Tj a b) (fun(r:Int)=>Ok A1 206 [.lst .o 1 (a.map AV.z),.z b] (.i r)):=⟨fun r h=>ZO m206 (Tj.eq_1 _ _) ZJ (ZA @UG.eq_1 (ZA @cK.eq_1 (ZA @Rf.eq_1 (ZA @aK.eq_1 @A206.eq_1)))) h⟩
instance(a:List ByteArray)(c:ByteArray):CW (OX a c) (fun(r:Bool)=>Ok A1 148 [.lst .o 1 (a.map AV.z),.z c] (.b r)):=⟨fun r h=>ZO m148 (OX.eq_1 _ _) trivial (ZA @aK.eq_1 @A148.eq_1) h⟩
instance(a:Int):CW (Jv a) (fun(r:Bool)=>Ok A1 224 [.i a] (.b r)):=⟨fun r h=>ZO m224 (Jv.eq_1 _) trivial (ZA @V10.eq_1 @A224.eq_1) h⟩
instance(j:Int)(k:Int):CW (lE j k) (fun(r:Int)=>Ok A1 189 [.i j,.i k] (.i r)):=⟨fun r h=>ZO m189 (lE.eq_1 _ _) trivial (ZA @adx.eq_1 (ZA @aK.eq_1 @adx.eq_1)) h⟩
def S_l(a:List Int)(v:Int):St:=⟨[(3,.i 0),(6,.lst .o 1 (a.map AV.i)),(7,.i (a.length:Int)),(8,.i v)],[]⟩
def afv(v:Unit):St:=⟨[(3,.i 0)],[]⟩
instance(b:List Int):CL (M_l b) wQ [3,6,7,8] [] (S_l b) (qS (qX 0 [3] [] (afv)) (qR V10 (fun r=>.i r))):=⟨fun d o h=>by
 unfold M_l at h;simp only[ZC,S_l,wQ];exact ZT trivial (ZA @S_l.eq_1 (ZA @afv.eq_1 (ZA @V10.eq_1 @wQ.eq_1))) h⟩
instance(a:List Int):CW (oh a) (fun(r:Int)=>Ok A1 188 [.lst .o 1 (a.map AV.i)] (.i r)):=⟨fun r h=>ZO m188 (oh.eq_1 _) ZJ (ZA @S_l.eq_1 (ZA @afv.eq_1 (ZA @MG.eq_1 (ZA @V10.eq_1 @A188.eq_1)))) h⟩
instance(a:aH)(b:aH):CW (Qy a b) (fun(r:Int)=>Ok A1 149 [(aC .o a),(aC .o b)] (.i r)):=⟨fun r h=>ZO m149 (Qy.eq_1 _ _) ZJB (ZA @aK.eq_1 @A149.eq_1) h⟩
def UK(a:af)(v:Int):St:=⟨[(1,.pt 1 0 0),(8,.lst .o 1 (a.N.map AV.z)),(9,.i (a.N.length:Int)),(10,.i v)],[(1,.var (ar .o a))]⟩
instance(a:af):CL (GI a) RI [1,8,9,10] [1] (UK a) (qS (qX 0 [1] [1] (yM a)) (qR V10 (fun r=>.b r))):=⟨fun i o h=>by
 unfold GI at h;simp only[ZC,UK,RI];exact ZT trivial (ZA @V10.eq_1 (ZA @UK.eq_1 @yM.eq_1)) h⟩
def Xg(a:af)(v:Int):St:=⟨[(1,.pt 1 0 0),(28,.lst .o 4 (a.F.map (aC .o))),(29,.i (a.F.length:Int)),(30,.i v)],[(1,.var (ar .o a))]⟩
instance(d:af):CL (JZ d) EP [1,28,29,30] [1] (Xg d) (qS (qX 2 [1] [1] (yM d)) (qR V10 (fun r=>.b r))):=⟨fun q o h=>by
 unfold JZ at h;simp only[ZC,Xg,EP];exact ZT trivial (ZA @V10.eq_1 (ZA @Xg.eq_1 (ZA @yM.eq_1 @EP.eq_1))) h⟩
instance(a:af):CW (De a) (fun(r:Bool)=>Ok A1 81 [(ar .o a)] (.b r)):=⟨fun r h=>ZO m81 (De.eq_1 _) ZJ (ZA @UK.eq_1 (ZA @yM.eq_1 (ZA @Xg.eq_1 (ZA @YL.eq_1 (ZA @Zc.eq_1 (ZA @V10.eq_1 @A81.eq_1)))))) h⟩
instance(a:aH)(d:Int):CW (CG a d) (fun(r:Int)=>Ok A1 215 [(aC .o a),.i d] (.i r)):=⟨fun r h=>ZO m215 (CG.eq_1 _ _) trivial (ZA @aK.eq_1 @A215.eq_1) h⟩
def Uz(a:List Int)(b:Int)(v:Int):St:=⟨[(0,.lst .o 1 (a.map AV.i)),(1,.i b),(7,.i (a.length:Int)),(8,.i v)],[]⟩
instance(b:List Int)(c:Int):CL (Jn b c) wm [0,1,7,8] [] (Uz b c) (qS (qX 0 [] [] (cK)) (qR aK (fun r=>.i r))):=⟨fun g o h=>by
 unfold Jn at h;simp only[ZC,Uz,wm];exact ZT trivial (ZA @Uz.eq_1 (ZA @cK.eq_1 (ZA @aK.eq_1 @wm.eq_1))) h⟩
instance(a:List Int)(b:Int):CW (Xc a b) (fun(r:Int)=>Ok A1 139 [.lst .o 1 (a.map AV.i),.i b] (.i r)):=⟨fun r h=>ZO m139 (Xc.eq_1 _ _) ZJ (ZA @Uz.eq_1 (ZA @cK.eq_1 (ZA @Se.eq_1 (ZA @aK.eq_1 @A139.eq_1)))) h⟩
instance(a:List Int)(c:Int):CW (BI a c) (fun(r:Bool)=>Ok A1 68 [.lst .o 1 (a.map AV.i),.i c] (.b r)):=⟨fun r h=>ZO m68 (BI.eq_1 _ _) trivial (ZA @aK.eq_1 @A68.eq_1) h⟩
def Xe(a:af)(b:aj)(v:Int×Int×List Int):St:=⟨[(2,.pt 2 0 0),(6,.sl 6 0 v.2.2.length),(7,.i v.1),(30,.lst .o 1 (b.F.map AV.i)),(31,.i (b.F.length:Int)),(32,.i v.2.1)],[(2,.var (ar .o a)),(6,.arr 1 (v.2.2.map AV.i))]⟩
instance(c:af)(d:aj):CL (GZ c d) Bz [2,6,7,30,31,32] [2,6] (Xe c d) (qS (qX 0 [6] [6] (uy)) (qR lC (fun r=>.tup [.lst .u 1 (r.1.map AV.i),.b r.2]))):=⟨fun a o h=>by
 unfold GZ at h;simp only[ZC,Xe,Bz];exact ZT ZJB (ZA @lC.eq_1 (ZA @Xe.eq_1 (ZA @uy.eq_1 @PH.eq_1))) h⟩
instance(c:af)(a:aj):CW (Ix c a) (fun(r:List Int×Bool)=>Ok A1 168 [(ar .o c),(ax .o a)] (.tup [.lst .u 1 (r.1.map AV.i),.b r.2])):=⟨fun r h=>ZO m168 (Ix.eq_1 _ _) ZJB (ZA @Xe.eq_1 (ZA @uy.eq_1 (ZA @RH.eq_1 (ZA @Mo.eq_1 (ZA @lC.eq_1 @A168.eq_1))))) h⟩
instance(c:aD):CW (Jg c) (fun(r:Bool)=>Ok A1 169 [(bD .o c)] (.b r)):=⟨fun r h=>ZO m169 (Jg.eq_1 _) trivial (ZA @V10.eq_1 @A169.eq_1) h⟩
def Yo(a:af)(b:Int×List (List Int))(v:Int×List Int):St:=⟨[(1,.pt 1 0 0),(3,.sl 3 0 b.2.length),(4,.i b.1),(5,.sl 5 0 v.2.length),(17,.lst .o 4 (a.F.map (aC .o))),(18,.i (a.F.length:Int)),(19,.i v.1)],[(1,.var (ar .o a)),(3,.arr 1 (b.2.map (hZ .u))),(5,.arr 1 (v.2.map AV.i))]⟩
def Rg(b:af)(a:Int×List (List Int))(v:List Int):St:=⟨[(1,.pt 1 0 0),(3,.sl 3 0 a.2.length),(4,.i a.1),(5,.sl 5 0 v.length)],[(1,.var (ar .o b)),(3,.arr 1 (a.2.map (hZ .u))),(5,.arr 1 (v.map AV.i))]⟩
instance(b:af)(c:Int×List (List Int)):CL (JN b c) DY [1,3,4,5,17,18,19] [1,3,5] (Yo b c) (qX 2 [1,3,4,5] [1,3,5] (Rg b c)):=⟨fun a o h=>by
 unfold JN at h;simp only[ZC,Yo,DY];exact ZT ZJB (ZA @Yo.eq_1 (ZA @Rg.eq_1 @DY.eq_1)) h⟩
def UN(a:af)(v:Int×List (List Int)):St:=⟨[(1,.pt 1 0 0),(3,.sl 3 0 v.2.length),(4,.i v.1)],[(1,.var (ar .o a)),(3,.arr 1 (v.2.map (hZ .u)))]⟩
def Ol(a:af)(v:List (List Int)):St:=⟨[(1,.pt 1 0 0),(3,.sl 3 0 v.length)],[(1,.var (ar .o a)),(3,.arr 1 (v.map (hZ .u)))]⟩
instance(a:af):CL (HV a) Ed [1,3,4] [1,3] (UN a) (qX 0 [1,3] [1,3] (Ol a)):=⟨fun b o h=>by
 unfold HV at h;simp only[ZC,UN,Ed];exact ZT ZJB (ZA @UN.eq_1 (ZA @Ol.eq_1 (ZA @Yo.eq_1 (ZA @Rg.eq_1 (ZA @Ed.eq_1 @aaa.eq_1))))) h⟩
def Uv(a:af)(v:Int×List (List Int)):St:=⟨[(3,.sl 3 0 v.2.length),(41,.lst .o 4 (a.F.map (aC .o))),(42,.i (a.F.length:Int)),(43,.i v.1)],[(3,.arr 1 (v.2.map (hZ .u)))]⟩
def KP(v:List (List Int)):St:=⟨[(3,.sl 3 0 v.length)],[(3,.arr 1 (v.map (hZ .u)))]⟩
end Vs

