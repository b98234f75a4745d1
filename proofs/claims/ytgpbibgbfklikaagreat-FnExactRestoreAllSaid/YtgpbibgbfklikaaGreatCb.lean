/-
  Part of the proof that FnExactRestoreAll returns true at every input.
-/
import Derived.Test.YtgpbibgbfklikaaGreatCa
set_option linter.defProp false
set_option linter.unusedSimpArgs false
set_option linter.unusedVariables false
set_option maxHeartbeats 1000000
set_option maxRecDepth 8000
namespace Vs
open Go Go.Proofs
attribute [local irreducible] AWP dF eff tz gi callM
theorem VT1:(∀(f:Fl)(x:ay),ai f x=.agg [.i x.A,.i x.B,.i x.F,.i x.N])/\
 (∀(f:Fl)(x:af),aW f x=.agg [.lst f 1 (x.N.map AV.z),.lst f 4 (x.F.map (ai f))])/\
 (∀(f:Fl)(x:ar),aA f x=.agg [.i x.N,.lst f 1 (x.F.map AV.i)])/\
 (∀(f:Fl)(x:bd),bf f x=.agg [.i x.N,.i x.F])/\
 (∀(f:Fl)(x:aj),ah f x=.agg [.i x.Id,.i x.F.N,.lst f 1 (x.F.F.map AV.i),.i x.N.N,.i x.N.F])/\
 (∀(f:Fl)(x:aK),bw f x=.agg [.lst f 1 (x.F.N.map AV.z),.lst f 4 (x.F.F.map (ai f)),.lst f 5 (x.N.map (ah f))])/\
 (∀(f:Fl)(x:aq),aH f x=.agg [.lst f 1 (x.F.F.N.map AV.z),.lst f 4 (x.F.F.F.map (ai f)),.lst f 5 (x.F.N.map (ah f)),.lst f 5 (x.N.map (ah f)),.lst f 1 (x.L.map AV.i)])/\
 (∀(f:Fl)(x:bL),aR f x=.agg [.lst f 1 (x.n.N.map AV.z),.lst f 4 (x.n.F.map (ai f)),.i x.N,.lst f 2 (x.F.map (aA f))])/\
 (∀(x:Value)(f:Nat)(cs:List AV),setPart (.sc x) 0 (.fn f cs)=some (.fn f cs)):=⟨fun _ _=>rfl,fun _ _=>rfl,fun _ _=>rfl,fun _ _=>rfl,fun _ _=>rfl,fun _ _=>rfl,fun _ _=>rfl,fun _ _=>rfl,fun _ _ _=>rfl⟩
theorem qA(f:Fl)(x:ar)(v:Value)(w:World)(S:Nat->Prop)(B:Nat)(fp:List Nat)(h:ba w S B v (aA f x) fp)(hk:v.cells.size=2):shK 2 v:=Dm h hk
theorem VT2:(∀(f:Fl)(x:ay),(ai f x).nrm=ai .o x)/\
 (∀(f:Fl)(xs:List ay),(xs.map (ai f)).map AV.nrm=xs.map (ai .o))/\
 (∀(f:Fl)(x:ay),(ai f x).als=ai f.als x)/\
 (∀(f:Fl)(xs:List ay),(xs.map (ai f)).map AV.als=xs.map (ai f.als))/\
 (∀(f:Fl),AV.als∘ai f=ai f.als)/\
 (∀(f:Fl)(x:ay),(ai f x).fix=ai f.fix x)/\
 (∀(f:Fl)(xs:List ay),(xs.map (ai f)).map AV.fix=xs.map (ai f.fix))/\
 (∀(f:Fl)(x:af),(aW f x).nrm=aW .o x)/\
 (∀(f:Fl)(xs:List af),(xs.map (aW f)).map AV.nrm=xs.map (aW .o))/\
 (∀(f:Fl)(x:af),(aW f x).als=aW f.als x)/\
 (∀(f:Fl)(xs:List af),(xs.map (aW f)).map AV.als=xs.map (aW f.als))/\
 (∀(f:Fl),AV.als∘aW f=aW f.als)/\
 (∀(f:Fl)(x:af),(aW f x).fix=aW f.fix x)/\
 (∀(f:Fl)(xs:List af),(xs.map (aW f)).map AV.fix=xs.map (aW f.fix))/\
 (∀(f:Fl)(x:ar),(aA f x).nrm=aA .o x)/\
 (∀(f:Fl)(xs:List ar),(xs.map (aA f)).map AV.nrm=xs.map (aA .o))/\
 (∀(f:Fl)(x:ar),(aA f x).als=aA f.als x)/\
 (∀(f:Fl)(xs:List ar),(xs.map (aA f)).map AV.als=xs.map (aA f.als))/\
 (∀(f:Fl),AV.als∘aA f=aA f.als)/\
 (∀(f:Fl)(x:ar),(aA f x).fix=aA f.fix x)/\
 (∀(f:Fl)(xs:List ar),(xs.map (aA f)).map AV.fix=xs.map (aA f.fix))/\
 (∀(f:Fl)(x:bd),(bf f x).nrm=bf .o x)/\
 (∀(f:Fl)(xs:List bd),(xs.map (bf f)).map AV.nrm=xs.map (bf .o))/\
 (∀(f:Fl)(x:bd),(bf f x).als=bf f.als x)/\
 (∀(f:Fl)(xs:List bd),(xs.map (bf f)).map AV.als=xs.map (bf f.als))/\
 (∀(f:Fl),AV.als∘bf f=bf f.als)/\
 (∀(f:Fl)(x:bd),(bf f x).fix=bf f.fix x)/\
 (∀(f:Fl)(xs:List bd),(xs.map (bf f)).map AV.fix=xs.map (bf f.fix))/\
 (∀(f:Fl)(x:aj),(ah f x).nrm=ah .o x)/\
 (∀(f:Fl)(xs:List aj),(xs.map (ah f)).map AV.nrm=xs.map (ah .o))/\
 (∀(f:Fl)(x:aj),(ah f x).als=ah f.als x)/\
 (∀(f:Fl)(xs:List aj),(xs.map (ah f)).map AV.als=xs.map (ah f.als))/\
 (∀(f:Fl),AV.als∘ah f=ah f.als)/\
 (∀(f:Fl)(x:aj),(ah f x).fix=ah f.fix x)/\
 (∀(f:Fl)(xs:List aj),(xs.map (ah f)).map AV.fix=xs.map (ah f.fix))/\
 (∀(f:Fl)(x:aK),(bw f x).nrm=bw .o x)/\
 (∀(f:Fl)(xs:List aK),(xs.map (bw f)).map AV.nrm=xs.map (bw .o))/\
 (∀(f:Fl)(x:aK),(bw f x).als=bw f.als x)/\
 (∀(f:Fl)(xs:List aK),(xs.map (bw f)).map AV.als=xs.map (bw f.als))/\
 (∀(f:Fl),AV.als∘bw f=bw f.als)/\
 (∀(f:Fl)(x:aK),(bw f x).fix=bw f.fix x)/\
 (∀(f:Fl)(xs:List aK),(xs.map (bw f)).map AV.fix=xs.map (bw f.fix))/\
 (∀(f:Fl)(x:aq),(aH f x).nrm=aH .o x)/\
 (∀(f:Fl)(xs:List aq),(xs.map (aH f)).map AV.nrm=xs.map (aH .o))/\
 (∀(f:Fl)(x:aq),(aH f x).als=aH f.als x)/\
 (∀(f:Fl)(xs:List aq),(xs.map (aH f)).map AV.als=xs.map (aH f.als))/\
 (∀(f:Fl),AV.als∘aH f=aH f.als)/\
 (∀(f:Fl)(x:aq),(aH f x).fix=aH f.fix x)/\
 (∀(f:Fl)(xs:List aq),(xs.map (aH f)).map AV.fix=xs.map (aH f.fix))/\
 (∀(f:Fl)(x:bL),(aR f x).nrm=aR .o x)/\
 (∀(f:Fl)(xs:List bL),(xs.map (aR f)).map AV.nrm=xs.map (aR .o))/\
 (∀(f:Fl)(x:bL),(aR f x).als=aR f.als x)/\
 (∀(f:Fl)(xs:List bL),(xs.map (aR f)).map AV.als=xs.map (aR f.als))/\
 (∀(f:Fl),AV.als∘aR f=aR f.als)/\
 (∀(f:Fl)(x:bL),(aR f x).fix=aR f.fix x)/\
 (∀(f:Fl)(xs:List bL),(xs.map (aR f)).map AV.fix=xs.map (aR f.fix)):=
 ⟨@eK,@rF,@dU,@sd,@sm,@dX,@lQ,@kb,@oE,@gW,@oK,@oM,@gU,@jK,@gp,@so,@gA,@rD,@rH,@gw,@lM,@nb,@rT,@jc,@sk,@rN,@jd,@lS,@gu,@rV,@fF,@rX,@rE,@fI,@lR,@oh,@tv,@jY,@uh,@ur,@kr,@mS,@gX,@lL,@fd,@lE,@lD,@eY,@gk,@jG,@nD,@gf,@nH,@nz,@gg,@iE⟩
theorem VF1:(∀(f:Fl)(x:ay),(ai f x).fix=ai f.fix x)/\
 (∀(f:Fl)(xs:List ay),(xs.map (ai f)).map AV.fix=xs.map (ai f.fix))/\
 (∀(f:Fl)(x:af),(aW f x).fix=aW f.fix x)/\
 (∀(f:Fl)(xs:List af),(xs.map (aW f)).map AV.fix=xs.map (aW f.fix))/\
 (∀(f:Fl)(x:ar),(aA f x).fix=aA f.fix x)/\
 (∀(f:Fl)(xs:List ar),(xs.map (aA f)).map AV.fix=xs.map (aA f.fix))/\
 (∀(f:Fl)(x:bd),(bf f x).fix=bf f.fix x)/\
 (∀(f:Fl)(xs:List bd),(xs.map (bf f)).map AV.fix=xs.map (bf f.fix))/\
 (∀(f:Fl)(x:aj),(ah f x).fix=ah f.fix x)/\
 (∀(f:Fl)(xs:List aj),(xs.map (ah f)).map AV.fix=xs.map (ah f.fix))/\
 (∀(f:Fl)(x:aK),(bw f x).fix=bw f.fix x)/\
 (∀(f:Fl)(xs:List aK),(xs.map (bw f)).map AV.fix=xs.map (bw f.fix))/\
 (∀(f:Fl)(x:aq),(aH f x).fix=aH f.fix x)/\
 (∀(f:Fl)(xs:List aq),(xs.map (aH f)).map AV.fix=xs.map (aH f.fix))/\
 (∀(f:Fl)(x:bL),(aR f x).fix=aR f.fix x)/\
 (∀(f:Fl)(xs:List bL),(xs.map (aR f)).map AV.fix=xs.map (aR f.fix)):=
 ⟨@dX,@lQ,@gU,@jK,@gw,@lM,@jd,@lS,@fI,@lR,@kr,@mS,@eY,@gk,@gg,@iE⟩
theorem DT:(∀(x:ay),(ai .o x).fz=true)/\
 (∀(xs:List ay),fzL (xs.map (ai .o))=true)/\
 (∀(x:ay),(ai .u x).ouB=true)/\
 (∀(xs:List ay),dB (xs.map (ai .u))=true)/\
 (∀(x:af),(aW .o x).fz=true)/\
 (∀(xs:List af),fzL (xs.map (aW .o))=true)/\
 (∀(x:af),(aW .u x).ouB=true)/\
 (∀(xs:List af),dB (xs.map (aW .u))=true)/\
 (∀(x:ar),(aA .o x).fz=true)/\
 (∀(xs:List ar),fzL (xs.map (aA .o))=true)/\
 (∀(x:ar),(aA .u x).ouB=true)/\
 (∀(xs:List ar),dB (xs.map (aA .u))=true)/\
 (∀(x:bd),(bf .o x).fz=true)/\
 (∀(xs:List bd),fzL (xs.map (bf .o))=true)/\
 (∀(x:bd),(bf .u x).ouB=true)/\
 (∀(xs:List bd),dB (xs.map (bf .u))=true)/\
 (∀(x:aj),(ah .o x).fz=true)/\
 (∀(xs:List aj),fzL (xs.map (ah .o))=true)/\
 (∀(x:aj),(ah .u x).ouB=true)/\
 (∀(xs:List aj),dB (xs.map (ah .u))=true)/\
 (∀(x:aK),(bw .o x).fz=true)/\
 (∀(xs:List aK),fzL (xs.map (bw .o))=true)/\
 (∀(x:aK),(bw .u x).ouB=true)/\
 (∀(xs:List aK),dB (xs.map (bw .u))=true)/\
 (∀(x:aq),(aH .o x).fz=true)/\
 (∀(xs:List aq),fzL (xs.map (aH .o))=true)/\
 (∀(x:aq),(aH .u x).ouB=true)/\
 (∀(xs:List aq),dB (xs.map (aH .u))=true)/\
 (∀(x:bL),(aR .o x).fz=true)/\
 (∀(xs:List bL),fzL (xs.map (aR .o))=true)/\
 (∀(x:bL),(aR .u x).ouB=true)/\
 (∀(xs:List bL),dB (xs.map (aR .u))=true):=
 ⟨@nV,@da,@nW,@cZ,@lX,@qB,@lP,@ql,@od,@jp,@ot,@jk,@oq,@tC,@oB,@tW,@oe,@fB,@oC,@fC,@qI,@xi,@qf,@vA,@io,@mr,@im,@mu,@ki,@oG,@jO,@oP⟩
theorem VE1:ai .o=ai .u/\ai .m=ai .u/\ai .s=ai .u/\bf .o=bf .u/\bf .m=bf .u/\bf .s=bf .u:=⟨rfl,rfl,rfl,rfl,rfl,rfl⟩
theorem Zr{α:Type}(n:Nat)(a:α):(List.replicate n a).length=n:=List.length_replicate
theorem ZA{A B:Prop}(a:A)(b:B):A/\B:=⟨a,b⟩
theorem ZF{A:Prop}(a:A){P Q:Prop}(k:Q)(e:A->P=Q:=by intro a;simp only[VS1,VS2,VS3,VS4,VS5,VS6,VT1,VT2,bx,bz,decide_true,decide_false,List.nodup_nil,List.nodup_cons,cR,cP,cS,ne_eq,not_false_eq_true,Int.reduceEq,Int.reduceNe,true_and,false_and,Nat.reduceSub,Nat.reduceMul,↓reduceIte,reduceCtorEq,Nat.reduceEqDiff,Nat.reduceAdd,Nat.reduceLeDiff,Int.reduceLE,a];exact Eq.refl _):P:=(e a).mpr k
theorem ZG{P Q:Prop}(k:Q)(e:P=Q:=by simp only[VA,VF1,↓reduceIte,Nat.reduceEqDiff,Nat.reduceAdd,Nat.reduceMul,Nat.reduceSub,Nat.reduceLeDiff];exact Eq.refl _):P:=e.mpr k
theorem ZL{A:Prop}(a:A){B:Prop}(b:B){P:Prop}(e:A->B->P:=by intro a b;(try simp only[VS1,VS2,VS3,VS4,VS5,VS6,VT1,VT2,bx,bz,decide_true,decide_false,List.nodup_nil,List.nodup_cons,cR,cP,cS,ne_eq,not_false_eq_true,Int.reduceEq,Int.reduceNe,true_and,false_and,Nat.reduceSub,Nat.reduceMul,↓reduceIte,reduceCtorEq,Nat.reduceEqDiff,Nat.reduceAdd,Nat.reduceLeDiff,Int.reduceLE,a]);all_goals first|(simp[qL,qJ,qJ0,qS,qX,qR,qM,Shp,sub,gN,bx,bz,VS1,VS2,VS3,VS4,VS5,VS6,VT1,VT2,b];done)|simp[qL,qJ,qJ0,qS,qX,qR,qM,Shp,sub,gN,bx,bz,VS1,VS2,VS3,VS4,VS5,VS6,VT1,VT2,VE1,b]):P:=e a b
theorem ZK{B:Prop}(b:B){P:Prop}(e:B->P:=by intro b;simp[qL,qJ,qJ0,qS,qX,qR,qM,Shp,sub,gN,bx,bz,VS1,VS2,VS3,VS4,VS5,VS6,VT1,VT2,b]):P:=e b
theorem ZS{A:Prop}(a:A){W:Prop}(w:W){ok:Oks}{ρ:Nat->Option Row}{d f:Nat}{args:List AV}{K:AV->List (Nat×Row)->Prop}{v:Value}(hk:K (.sc v) [])
 (e:A->W->ok.p f (args.map (snp ρ 4)) (.sc v):=by intro a w;simp only[VS1,VS2,VS3,VS4,VS5,VS6,VT1,VT2,bx,bz,decide_true,decide_false,List.nodup_nil,List.nodup_cons,cR,cP,cS,ne_eq,not_false_eq_true,Int.reduceEq,Int.reduceNe,true_and,false_and,Nat.reduceSub,Nat.reduceMul,↓reduceIte,reduceCtorEq,Nat.reduceEqDiff,Nat.reduceAdd,Nat.reduceLeDiff,Int.reduceLE,a];exact w):gi ok ρ d f args K:=Ki (e a w) hk
theorem ZU{A:Prop}(a:A){W:Prop}(w:W){ok:Oks}{ρ:Nat->Option Row}{d f:Nat}{args:List AV}{K:AV->List (Nat×Row)->Prop}{res:AV}(hk:K (adopt 4 d res).1 (adopt 4 d res).2.1)
 (e:A->W->ok.p f (args.map (snp ρ 4)) res:=by intro a w;simp only[VS1,VS2,VS3,VS4,VS5,VS6,VT1,VT2,bx,bz,decide_true,decide_false,List.nodup_nil,List.nodup_cons,cR,cP,cS,ne_eq,not_false_eq_true,Int.reduceEq,Int.reduceNe,true_and,false_and,Nat.reduceSub,Nat.reduceMul,↓reduceIte,reduceCtorEq,Nat.reduceEqDiff,Nat.reduceAdd,Nat.reduceLeDiff,Int.reduceLE,a];exact w) (hu:res.allU:=by simp[AV.allU,kO,tj,VT1,VT2]) (hn:∀p∈(adopt 4 d res).2.1,ρ p.1=none/\p.1<1000000000:=by simp only[VS1,VS2,VS3,VS4,VS5,VS6,VT1,VT2,bx,bz,decide_true,decide_false,List.nodup_nil,List.nodup_cons,cR,cP,cS,ne_eq,not_false_eq_true,Int.reduceEq,Int.reduceNe,true_and,false_and,Nat.reduceSub,Nat.reduceMul,↓reduceIte,reduceCtorEq,Nat.reduceEqDiff,Nat.reduceAdd,Nat.reduceLeDiff,Int.reduceLE,Nat.reduceLT]):gi ok ρ d f args K:=MN (e a w) hu hn hk
theorem ZQ{P:Prop}(e:P:=by simp[VS1,VS2,VS3,VS4,VS5,VS6,VT1,VT2]):P:=e
theorem ZW{A:Prop}(a:A){W:Prop}(w:W){ok:Oks}{ρ:Nat->Option Row}{d f:Nat}{args:List AV}{rs:List Nat}{K:AV->List (Nat×Row)->Prop}{res:AV}{outs:List (Nat×Row)}
 (e:A->W->ok.m f (args.map (AV.rg (cnm rs))) (rs.map (hZ ρ rs)) res outs:=by intro a w;simp only[VS1,VS2,VS3,VS4,VS5,VS6,VT1,VT2,bx,bz,decide_true,decide_false,List.nodup_nil,List.nodup_cons,cR,cP,cS,ne_eq,not_false_eq_true,Int.reduceEq,Int.reduceNe,true_and,false_and,Nat.reduceSub,Nat.reduceMul,↓reduceIte,reduceCtorEq,Nat.reduceEqDiff,Nat.reduceAdd,Nat.reduceLeDiff,Int.reduceLE,a];first|exact w|(simp only[VS1,VS2,VS3,VS4,VS5,VS6,VT1,VT2,bx,bz,decide_true,decide_false,List.nodup_nil,List.nodup_cons,cR,cP,cS,ne_eq,not_false_eq_true,Int.reduceEq,Int.reduceNe,true_and,false_and,Nat.reduceSub,Nat.reduceMul,↓reduceIte,reduceCtorEq,Nat.reduceEqDiff,Nat.reduceAdd,Nat.reduceLeDiff,Int.reduceLE,a] at w;exact w))
 (h1:rs.Nodup/\(∀r∈rs,cA (ρ r))/\(∀r∈rs,∀q∈nF (ρ r),q∈rs)/\(∀r∈aM args,r∈rs):=by simp[VS1,VS2,VS3,VS4,VS5,VS6,VT1,VT2])
 (h2:(outs.map fun p=>bkn d rs p.1).Nodup/\(∀p∈outs,1000000000<=p.1->p.1-1000000000<rs.length)/\(∀p∈outs,p.1<1000000000->ρ (bkn d rs p.1)=none/\bkn d rs p.1<1000000000))
 (hk:K (res.rg (bkn d rs)) (bW rs++outs.map (dg d rs))):callM ok ρ d f args rs K:=jl (e a w) h1 h2 hk
def S_b(a:List ByteArray)(v:Int×Int):St:=⟨[(0,.lst .o 1 (a.map AV.z)),(1,.i v.1),(5,.i v.2)],[]⟩
def gc(v:Int):St:=⟨[(1,.i v)],[]⟩
def NmK(ns ks:List Nat)(P:Prop):Prop:=P
theorem nmK{ns ks:List Nat}{P:Prop}(p:P):NmK ns ks P:=p
theorem ZSG{A:Prop}(a:A){W:Prop}(w:W){ok:Oks}{ρ:Nat->Option Row}{d f:Nat}{args:List AV}{K:AV->List (Nat×Row)->Prop}{v:Value}{Q:Prop}(k:Q)
 (e:A->W->ok.p f (args.map (snp ρ 4)) (.sc v):=by intro a w;simp only[VS1,VS2,VS3,VS4,VS5,VS6,VT1,VT2,bx,bz,decide_true,decide_false,List.nodup_nil,List.nodup_cons,cR,cP,cS,ne_eq,not_false_eq_true,Int.reduceEq,Int.reduceNe,true_and,false_and,Nat.reduceSub,Nat.reduceMul,↓reduceIte,reduceCtorEq,Nat.reduceEqDiff,Nat.reduceAdd,Nat.reduceLeDiff,Int.reduceLE,a];exact w) (g:K (.sc v) []=Q:=by simp only[VA,VF1,↓reduceIte,Nat.reduceEqDiff,Nat.reduceAdd,Nat.reduceMul,Nat.reduceSub,Nat.reduceLeDiff];exact Eq.refl _):gi ok ρ d f args K:=Ki (e a w) (g.mpr k)
theorem ZUG{A:Prop}(a:A){W:Prop}(w:W){ok:Oks}{ρ:Nat->Option Row}{d f:Nat}{args:List AV}{K:AV->List (Nat×Row)->Prop}{res:AV}{Q:Prop}(k:Q)
 (e:A->W->ok.p f (args.map (snp ρ 4)) res:=by intro a w;simp only[VS1,VS2,VS3,VS4,VS5,VS6,VT1,VT2,bx,bz,decide_true,decide_false,List.nodup_nil,List.nodup_cons,cR,cP,cS,ne_eq,not_false_eq_true,Int.reduceEq,Int.reduceNe,true_and,false_and,Nat.reduceSub,Nat.reduceMul,↓reduceIte,reduceCtorEq,Nat.reduceEqDiff,Nat.reduceAdd,Nat.reduceLeDiff,Int.reduceLE,a];exact w) (hu:res.allU:=by simp[AV.allU,kO,tj,VT1,VT2]) (hn:∀p∈(adopt 4 d res).2.1,ρ p.1=none/\p.1<1000000000:=by simp only[VS1,VS2,VS3,VS4,VS5,VS6,VT1,VT2,bx,bz,decide_true,decide_false,List.nodup_nil,List.nodup_cons,cR,cP,cS,ne_eq,not_false_eq_true,Int.reduceEq,Int.reduceNe,true_and,false_and,Nat.reduceSub,Nat.reduceMul,↓reduceIte,reduceCtorEq,Nat.reduceEqDiff,Nat.reduceAdd,Nat.reduceLeDiff,Int.reduceLE,Nat.reduceLT]) (g:K (adopt 4 d res).1 (adopt 4 d res).2.1=Q:=by simp only[VA,VF1,↓reduceIte,Nat.reduceEqDiff,Nat.reduceAdd,Nat.reduceMul,Nat.reduceSub,Nat.reduceLeDiff];exact Eq.refl _):gi ok ρ d f args K:=MN (e a w) hu hn (g.mpr k)
theorem NM1{ρ:Nat->Option Row}{d:Nat}{rs:List Nat}{outs:List (Nat×Row)}{ns ks:List Nat}(hn:outs.map (·.1)=ns)(h:WE rs ns=true):
 NmK ns ks ((outs.map fun p=>bkn d rs p.1).Nodup/\(∀p∈outs,1000000000<=p.1->p.1-1000000000<rs.length)/\(∀p∈outs,p.1<1000000000->ρ (bkn d rs p.1)=none/\bkn d rs p.1<1000000000)):=ry ns hn h
theorem NM2{ρ:Nat->Option Row}{d:Nat}{rs:List Nat}{outs:List (Nat×Row)}{ns ks:List Nat}(hn:outs.map (·.1)=ns)(h:Jl d rs ns ks=true)(hk:∀q∈ks,ρ q=none):
 NmK ns ks ((outs.map fun p=>bkn d rs p.1).Nodup/\(∀p∈outs,1000000000<=p.1->p.1-1000000000<rs.length)/\(∀p∈outs,p.1<1000000000->ρ (bkn d rs p.1)=none/\bkn d rs p.1<1000000000)):=mg ns ks hn h hk
theorem ZWG{A:Prop}(a:A){W:Prop}(w:W)(ns ks:List Nat){Q:Prop}(k:Q){ok:Oks}{ρ:Nat->Option Row}{d f:Nat}{args:List AV}{rs:List Nat}{K:AV->List (Nat×Row)->Prop}{res:AV}{outs:List (Nat×Row)}
 (e:A->W->ok.m f (args.map (AV.rg (cnm rs))) (rs.map (hZ ρ rs)) res outs:=by intro a w;simp only[VS1,VS2,VS3,VS4,VS5,VS6,VT1,VT2,bx,bz,decide_true,decide_false,List.nodup_nil,List.nodup_cons,cR,cP,cS,ne_eq,not_false_eq_true,Int.reduceEq,Int.reduceNe,true_and,false_and,Nat.reduceSub,Nat.reduceMul,↓reduceIte,reduceCtorEq,Nat.reduceEqDiff,Nat.reduceAdd,Nat.reduceLeDiff,Int.reduceLE,a];first|exact w|(simp only[VS1,VS2,VS3,VS4,VS5,VS6,VT1,VT2,bx,bz,decide_true,decide_false,List.nodup_nil,List.nodup_cons,cR,cP,cS,ne_eq,not_false_eq_true,Int.reduceEq,Int.reduceNe,true_and,false_and,Nat.reduceSub,Nat.reduceMul,↓reduceIte,reduceCtorEq,Nat.reduceEqDiff,Nat.reduceAdd,Nat.reduceLeDiff,Int.reduceLE,a] at w;exact w))
 (h1:rs.Nodup/\(∀r∈rs,cA (ρ r))/\(∀r∈rs,∀q∈nF (ρ r),q∈rs)/\(∀r∈aM args,r∈rs):=by simp[VS1,VS2,VS3,VS4,VS5,VS6,VT1,VT2])
 (h2:NmK ns ks ((outs.map fun p=>bkn d rs p.1).Nodup/\(∀p∈outs,1000000000<=p.1->p.1-1000000000<rs.length)/\(∀p∈outs,p.1<1000000000->ρ (bkn d rs p.1)=none/\bkn d rs p.1<1000000000)):=by first|exact NM1 rfl (by decide+kernel)|exact NM2 rfl (by decide+kernel) ZQ|exact nmK ZQ)
 (g:K (res.rg (bkn d rs)) (bW rs++outs.map (dg d rs))=Q:=by simp only[VA,VF1,↓reduceIte,Nat.reduceEqDiff,Nat.reduceAdd,Nat.reduceMul,Nat.reduceSub,Nat.reduceLeDiff];exact Eq.refl _):callM ok ρ d f args rs K:=jl (e a w) h1 h2 (g.mpr k)
theorem w_b(b:List ByteArray)(d:Int×Int)(o:(Int×Int)⊕(Int⊕Int))(h:M_b b d=some o):AWP (OkS Tryz.prog) MD (qL [0,1,5] [] (S_b b) (qS (qX 0 [1] [] (gc)) (qR V85 (fun r=>.i r))) o) (S_b b d):=by
 have e:=ZA @S_b.eq_1 @gc.eq_1;unfold M_b at h;simp only[ZC,S_b,MD];obtain⟨a,h⟩|⟨a,h⟩:=au h
 ·obtain⟨j,g,h⟩:=ae h;obtain⟨c,h⟩|⟨c,h⟩:=au h
  ·cases h;exact ZL (ZA a (ZA (aO g) c)) @V85.eq_1
  ·cases h;exact ZL (ZA a (ZA (aO g) c)) e
 ·cases h;exact ZL a e
theorem w_fa(b:List ByteArray)(c:Int){r:Int}(h:GW b c=some r):Ok Tryz.prog 85 [.lst .o 1 (b.map AV.z),.i c] (.i r):=by
 refine ax aZ m85 rfl ?_;unfold GW at h;simp only[ZC,A85,V85,aB];obtain⟨a,h⟩|⟨a,h⟩:=au h
 ·cases h;exact ZL a @V85.eq_1
 ·obtain⟨d,g,h⟩:=ae h;try refine ZF a ?_
  refine bl (o:=d) (br cz (aF (w_b b) g ?_)) (fun k hv=>?_) (fun l hv e τ hne hq=>?_)
  ·exact ZK (ZA @S_b.eq_1 @gc.eq_1)
  ·subst hv;simp only[] at h;simp only[ZC,gc,TQ];cases h;exact ZL a @V85.eq_1
  ·subst hv;simp only[] at h;obtain⟨rfl,j⟩:=hq;cases h;exact j
theorem w_fb(b:List ay)(c:Int){r:Int}(h:KQ b c=some r):Ok Tryz.prog 86 [.lst .o 4 (b.map (ai .o)),.i c] (.i r):=by
 refine ax aZ m86 rfl ?_;unfold KQ at h;simp only[ZC,A86,V85,aB];obtain⟨a,h⟩|⟨a,h⟩:=au h
 ·cases h;exact ZL a @V85.eq_1
 ·cases h;exact ZL a @V85.eq_1
theorem w_fc(b:af)(d:Int){r:Int}(h:NC b d=some r):Ok Tryz.prog 34 [.agg [.lst .o 1 (b.N.map AV.z),.lst .o 4 (b.F.map (ai .o))],.i d] (.i r):=by
 refine ax aZ m34 rfl ?_;unfold NC at h;simp only[ZC,A34,V85,aB];obtain⟨k,g,h⟩:=ae h;refine ZF trivial ?_;refine ZSG trivial (w_fa _ _ g) ?_;obtain⟨a,h⟩|⟨a,h⟩:=au h
 ·cases h;exact ZL a @V85.eq_1
 ·obtain⟨l,j,h⟩:=ae h;refine ZF a ?_;refine ZSG a (w_fb _ _ j) ?_;obtain⟨c,h⟩|⟨c,h⟩:=au h
  ·cases h;exact ZL (ZA a c) @V85.eq_1
  ·cases h;exact ZL (ZA a c) @V85.eq_1
theorem w_do(b:List Int)(c:Int){r:Int}(h:Df b c=some r):Ok Tryz.prog 60 [.lst .o 1 (b.map AV.i),.i c] (.i r):=by
 refine ax aZ m60 rfl ?_;unfold Df at h;simp only[ZC,A60,V85,aB];obtain⟨a,h⟩|⟨a,h⟩:=au h
 ·cases h;exact ZL a @V85.eq_1
 ·cases h;exact ZL a @V85.eq_1
theorem w_fd(a:ar)(c:Int){r:Int}(h:NM a c=some r):Ok Tryz.prog 147 [.agg [.i a.N,.lst .o 1 (a.F.map AV.i)],.i c] (.i r):=by
 refine ax aZ m147 rfl ?_;unfold NM at h;simp only[ZC,A147,V85,aB];obtain⟨g,d,h⟩:=ae h;refine ZF trivial ?_;refine ZSG trivial (w_do _ _ d) ?_;obtain⟨b,h⟩|⟨b,h⟩:=au h
 ·cases h;exact ZL b @V85.eq_1
 ·cases h;exact ZL b @V85.eq_1
theorem w_fe(a:aj)(c:Int){r:Int}(h:KH a c=some r):Ok Tryz.prog 124 [.agg [.i a.Id,.i a.F.N,.lst .o 1 (a.F.F.map AV.i),.i a.N.N,.i a.N.F],.i c] (.i r):=by
 refine ax aZ m124 rfl ?_;unfold KH at h;simp only[ZC,A124,V85,aB];obtain⟨g,d,h⟩:=ae h;refine ZF trivial ?_;refine ZSG trivial (w_fd _ _ d) ?_;obtain⟨b,h⟩|⟨b,h⟩:=au h
 ·cases h;exact ZL b @V85.eq_1
 ·cases h;exact ZL b @V85.eq_1
def S_w(a:List aj)(v:Int×Int):St:=⟨[(0,.lst .o 5 (a.map (ah .o))),(1,.i v.1),(5,.i v.2)],[]⟩
theorem w_w(a:List aj)(d:Int×Int)(o:(Int×Int)⊕(Int⊕Int))(h:M_w a d=some o):AWP (OkS Tryz.prog) IZ (qL [0,1,5] [] (S_w a) (qS (qX 0 [1] [] (gc)) (qR V85 (fun r=>.i r))) o) (S_w a d):=by
 have e:=ZA @S_w.eq_1 @gc.eq_1;unfold M_w at h;simp only[ZC,S_w,IZ];obtain⟨b,h⟩|⟨b,h⟩:=au h
 ·obtain⟨k,g,h⟩:=ae h;obtain⟨l,j,h⟩:=ae h;have f:=ZA b (aO g);refine ZF f ?_;refine ZSG f (w_fe _ _ j) ?_;obtain⟨c,h⟩|⟨c,h⟩:=au h
  ·cases h;exact ZL (ZA f c) @V85.eq_1
  ·cases h;exact ZL (ZA f c) e
 ·cases h;exact ZL b e
theorem w_dp(b:List aj)(c:Int){r:Int}(h:CQ b c=some r):Ok Tryz.prog 59 [.lst .o 5 (b.map (ah .o)),.i c] (.i r):=by
 refine ax aZ m59 rfl ?_;unfold CQ at h;simp only[ZC,A59,V85,aB];obtain⟨a,h⟩|⟨a,h⟩:=au h
 ·cases h;exact ZL a @V85.eq_1
 ·obtain⟨d,g,h⟩:=ae h;try refine ZF a ?_
  refine bl (o:=d) (br cz (aF (w_w b) g ?_)) (fun k hv=>?_) (fun l hv e τ hne hq=>?_)
  ·exact ZK (ZA @S_w.eq_1 @gc.eq_1)
  ·subst hv;simp only[] at h;simp only[ZC,gc,Tq];cases h;exact ZL a @V85.eq_1
  ·subst hv;simp only[] at h;obtain⟨rfl,j⟩:=hq;cases h;exact j
theorem w_ff(b:aK)(d:Int){r:Int}(h:MC b d=some r):Ok Tryz.prog 24 [.agg [.lst .o 1 (b.F.N.map AV.z),.lst .o 4 (b.F.F.map (ai .o)),.lst .o 5 (b.N.map (ah .o))],.i d] (.i r):=by
 refine ax aZ m24 rfl ?_;unfold MC at h;simp only[ZC,A24,V85,aB];obtain⟨k,g,h⟩:=ae h;refine ZF trivial ?_;refine ZSG trivial (w_fc _ _ g) ?_;obtain⟨a,h⟩|⟨a,h⟩:=au h
 ·cases h;exact ZL a @V85.eq_1
 ·obtain⟨l,j,h⟩:=ae h;refine ZF a ?_;refine ZSG a (w_dp _ _ j) ?_;obtain⟨c,h⟩|⟨c,h⟩:=au h
  ·cases h;exact ZL (ZA a c) @V85.eq_1
  ·cases h;exact ZL (ZA a c) @V85.eq_1
theorem w_fg(a:aq)(g:Int){r:Int}(h:NK a g=some r):Ok Tryz.prog 13 [.agg [.lst .o 1 (a.F.F.N.map AV.z),.lst .o 4 (a.F.F.F.map (ai .o)),.lst .o 5 (a.F.N.map (ah .o)),.lst .o 5 (a.N.map (ah .o)),.lst .o 1 (a.L.map AV.i)],.i g] (.i r):=by
 refine ax aZ m13 rfl ?_;unfold NK at h;simp only[ZC,A13,V85,aB];obtain⟨m,j,h⟩:=ae h;refine ZF trivial ?_;refine ZSG trivial (w_ff _ _ j) ?_;obtain⟨b,h⟩|⟨b,h⟩:=au h
 ·cases h;exact ZL b @V85.eq_1
 ·obtain⟨p,k,h⟩:=ae h;refine ZF b ?_;refine ZSG b (w_dp _ _ k) ?_;obtain⟨c,h⟩|⟨c,h⟩:=au h
  ·cases h;exact ZL (ZA b c) @V85.eq_1
  ·obtain⟨q,l,h⟩:=ae h;have f:=ZA b c;refine ZF f ?_;refine ZSG f (w_do _ _ l) ?_;obtain⟨d,h⟩|⟨d,h⟩:=au h
   ·cases h;exact ZL (ZA f d) @V85.eq_1
   ·cases h;exact ZL (ZA f d) @V85.eq_1
def IL(a:List ByteArray)(v:Int×List ByteArray):St:=⟨[(0,.lst .o 1 (a.map AV.z)),(3,.sl 3 0 v.2.length),(4,.i v.1)],[(3,.arr 1 (v.2.map AV.z))]⟩
def BB(v:List ByteArray):St:=⟨[(3,.sl 3 0 v.length)],[(3,.arr 1 (v.map AV.z))]⟩
theorem w_ac(b:List ByteArray)(a:Int×List ByteArray)(o:(Int×List ByteArray)⊕(List ByteArray))(h:CG b a=some o):AWP (OkS Tryz.prog) Jo (qL [0,3,4] [3] (IL b) (qX 0 [3] [3] (BB)) o) (IL b a):=by
 have e:=ZA @IL.eq_1 @BB.eq_1;unfold CG at h;simp only[ZC,IL,Jo];obtain⟨c,h⟩|⟨c,h⟩:=au h
 ·obtain⟨g,i,h⟩:=ae h;obtain⟨p,j,h⟩:=ae h;obtain⟨q,k,h⟩:=ae h;obtain⟨l,d,h⟩:=bj h;have m:(a.2.map AV.z).set (Int.toNat a.1) (.z g)=l.map AV.z:=by rw[<-d,List.map_set]
  cases h;exact ZL (ZA c (ZA (aO i) (ZA (be j) (ZA k m)))) (ZA e d.symm)
 ·cases h;exact ZL c e
theorem w_fh(a:List ByteArray){r:List ByteArray}(h:Ll a=some r):Ok Tryz.prog 91 [.lst .o 1 (a.map AV.z)] (.lst .u 1 (r.map AV.z)):=by
 refine ax aZ m91 rfl ?_;unfold Ll at h;simp only[ZC,A91,V91,aB];obtain⟨j,c,h⟩:=ae h;obtain⟨d,b,h⟩:=bj h;have g:List.replicate (Int.toNat (a.length:Int)) (.z (⟨#[]⟩:ByteArray):AV)=d.map AV.z:=by rw[<-b,List.map_replicate]
 obtain⟨k,i,h⟩:=ae h;have f:=ZA (be c) g;try refine ZF f ?_
 refine aJ (bn (aF (w_ac a) i ?_)) ?_
 ·exact ZK (ZA @IL.eq_1 (ZA @BB.eq_1 (ZA b.symm @Zr)))
 ·simp only[ZC,BB,Tr];cases h;exact ZL f @V91.eq_1
theorem w_ei(a:ay){r:ay}(h:Cy a=some r):Ok Tryz.prog 150 [.agg [.i a.A,.i a.B,.i a.F,.i a.N]] (.agg [.i r.A,.i r.B,.i r.F,.i r.N]):=by
 refine ax aZ m150 rfl ?_;unfold Cy at h;simp only[ZC,A150,VF,aB];cases h;exact ZL trivial @VF.eq_1
def HW(a:List ay)(v:Int×List ay):St:=⟨[(0,.lst .o 4 (a.map (ai .o))),(3,.sl 3 0 v.2.length),(4,.i v.1)],[(3,.arr 4 (v.2.map (ai .u)))]⟩
def BT(v:List ay):St:=⟨[(3,.sl 3 0 v.length)],[(3,.arr 4 (v.map (ai .u)))]⟩
theorem w_ad(c:List ay)(a:Int×List ay)(o:(Int×List ay)⊕(List ay))(h:FH c a=some o):AWP (OkS Tryz.prog) HO (qL [0,3,4] [3] (HW c) (qX 0 [3] [3] (BT)) o) (HW c a):=by
 have e:=ZA @HW.eq_1 @BT.eq_1;unfold FH at h;simp only[ZC,HW,HO];obtain⟨d,h⟩|⟨d,h⟩:=au h
 ·obtain⟨s,j,h⟩:=ae h;obtain⟨b,k,h⟩:=ae h;have f:=ZA d (aO j);refine ZF f ?_;refine ZUG f (w_ei _ k) ?_;obtain⟨t,l,h⟩:=ae h;obtain⟨v,m,h⟩:=ae h;obtain⟨p,g,h⟩:=bj h;have q:(a.2.map (ai .u)).set (Int.toNat a.1) (.agg [.i b.A,.i b.B,.i b.F,.i b.N])=p.map (ai .u):=by rw[<-g,List.map_set];rfl
  cases h;exact ZL (ZA f (ZA (be l) (ZA m q))) (ZA e g.symm)
 ·cases h;exact ZL d e
theorem w_fi(a:List ay){r:List ay}(h:Lh a=some r):Ok Tryz.prog 92 [.lst .o 4 (a.map (ai .o))] (.lst .u 4 (r.map (ai .u))):=by
 refine ax aZ m92 rfl ?_;unfold Lh at h;simp only[ZC,A92,V91,aB];obtain⟨k,c,h⟩:=ae h;obtain⟨d,b,h⟩:=bj h;have g:List.replicate (Int.toNat (a.length:Int)) (.agg [.i 0,.i 0,.i 0,.i 0]:AV)=d.map (ai .u):=by rw[<-b,List.map_replicate];rfl
 obtain⟨l,j,h⟩:=ae h;have f:=ZA (be c) g;try refine ZF f ?_
 refine aJ (bn (aF (w_ad a) j ?_)) ?_
 ·exact ZK (ZA @HW.eq_1 (ZA @BT.eq_1 (ZA b.symm @Zr)))
 ·simp only[ZC,BT,TL];cases h;exact ZL f @V91.eq_1
theorem w_fj(a:af){r:af}(h:Lv a=some r):Ok Tryz.prog 37 [.agg [.lst .o 1 (a.N.map AV.z),.lst .o 4 (a.F.map (ai .o))]] (.agg [.lst .u 1 (r.N.map AV.z),.lst .u 4 (r.F.map (ai .u))]):=by
 refine ax aZ m37 rfl ?_;unfold Lv at h;simp only[ZC,A37,V37,aB];obtain⟨d,b,h⟩:=ae h;refine ZF trivial ?_;refine ZUG trivial (w_fh _ b) ?_;obtain⟨g,c,h⟩:=ae h;refine ZF trivial ?_;refine ZUG trivial (w_fi _ c) ?_;cases h;exact ZL trivial @V37.eq_1
def S_f(a:List Int)(v:Int×List Int):St:=⟨[(0,.lst .o 1 (a.map AV.i)),(3,.sl 3 0 v.2.length),(4,.i v.1)],[(3,.arr 1 (v.2.map AV.i))]⟩
def lH(v:List Int):St:=⟨[(3,.sl 3 0 v.length)],[(3,.arr 1 (v.map AV.i))]⟩
theorem w_f(b:List Int)(a:Int×List Int)(o:(Int×List Int)⊕(List Int))(h:M_f b a=some o):AWP (OkS Tryz.prog) IW (qL [0,3,4] [3] (S_f b) (qX 0 [3] [3] (lH)) o) (S_f b a):=by
 have e:=ZA @S_f.eq_1 @lH.eq_1;unfold M_f at h;simp only[ZC,S_f,IW];obtain⟨c,h⟩|⟨c,h⟩:=au h
 ·obtain⟨g,j,h⟩:=ae h;obtain⟨q,k,h⟩:=ae h;obtain⟨s,l,h⟩:=ae h;obtain⟨m,d,h⟩:=bj h;have p:(a.2.map AV.i).set (Int.toNat a.1) (.i g)=m.map AV.i:=by rw[<-d,List.map_set]
  cases h;exact ZL (ZA c (ZA (aO j) (ZA (be k) (ZA l p)))) (ZA e d.symm)
 ·cases h;exact ZL c e
theorem w_dq(a:List Int){r:List Int}(h:Eu a=some r):Ok Tryz.prog 32 [.lst .o 1 (a.map AV.i)] (.lst .u 1 (r.map AV.i)):=by
 refine ax aZ m32 rfl ?_;unfold Eu at h;simp only[ZC,A32,V91,aB];obtain⟨k,c,h⟩:=ae h;obtain⟨d,b,h⟩:=bj h;have g:List.replicate (Int.toNat (a.length:Int)) (.i 0:AV)=d.map AV.i:=by rw[<-b,List.map_replicate]
 obtain⟨l,j,h⟩:=ae h;have f:=ZA (be c) g;try refine ZF f ?_
 refine aJ (bn (aF (w_f a) j ?_)) ?_
 ·exact ZK (ZA @S_f.eq_1 (ZA @lH.eq_1 (ZA b.symm @Zr)))
 ·simp only[ZC,lH,TT];cases h;exact ZL f @V91.eq_1
theorem w_fk(a:ar){r:ar}(h:LD a=some r):Ok Tryz.prog 151 [.agg [.i a.N,.lst .o 1 (a.F.map AV.i)]] (.agg [.i r.N,.lst .u 1 (r.F.map AV.i)]):=by
 refine ax aZ m151 rfl ?_;unfold LD at h;simp only[ZC,A151,V37,aB];obtain⟨c,b,h⟩:=ae h;refine ZF trivial ?_;refine ZUG trivial (w_dq _ b) ?_;cases h;exact ZL trivial @V37.eq_1
theorem w_fl(a:bd){r:bd}(h:MP a=some r):Ok Tryz.prog 152 [.agg [.i a.N,.i a.F]] (.agg [.i r.N,.i r.F]):=by
 refine ax aZ m152 rfl ?_;unfold MP at h;simp only[ZC,A152,V37,aB];cases h;exact ZL trivial @V37.eq_1
theorem w_ej(a:aj){r:aj}(h:Cm a=some r):Ok Tryz.prog 127 [.agg [.i a.Id,.i a.F.N,.lst .o 1 (a.F.F.map AV.i),.i a.N.N,.i a.N.F]] (.agg [.i r.Id,.i r.F.N,.lst .u 1 (r.F.F.map AV.i),.i r.N.N,.i r.N.F]):=by
 refine ax aZ m127 rfl ?_;unfold Cm at h;simp only[ZC,A127,lZ,aB];obtain⟨d,b,h⟩:=ae h;refine ZF trivial ?_;refine ZUG trivial (w_fk _ b) ?_;obtain⟨g,c,h⟩:=ae h;refine ZF trivial ?_;refine ZUG trivial (w_fl _ c) ?_;cases h;exact ZL trivial @lZ.eq_1
def S_l(a:List aj)(v:Int×List aj):St:=⟨[(0,.lst .o 5 (a.map (ah .o))),(3,.sl 3 0 v.2.length),(4,.i v.1)],[(3,.arr 5 (v.2.map (ah .u)))]⟩
def wc(v:List aj):St:=⟨[(3,.sl 3 0 v.length)],[(3,.arr 5 (v.map (ah .u)))]⟩
theorem w_l(c:List aj)(b:Int×List aj)(o:(Int×List aj)⊕(List aj))(h:M_l c b=some o):AWP (OkS Tryz.prog) GN (qL [0,3,4] [3] (S_l c) (qX 0 [3] [3] (wc)) o) (S_l c b):=by
 have e:=ZA @S_l.eq_1 @wc.eq_1;unfold M_l at h;simp only[ZC,S_l,GN];obtain⟨d,h⟩|⟨d,h⟩:=au h
 ·obtain⟨s,j,h⟩:=ae h;obtain⟨a,k,h⟩:=ae h;have f:=ZA d (aO j);refine ZF f ?_;refine ZUG f (w_ej _ k) ?_;obtain⟨t,l,h⟩:=ae h;obtain⟨v,m,h⟩:=ae h;obtain⟨p,g,h⟩:=bj h;have q:(b.2.map (ah .u)).set (Int.toNat b.1) (.agg [.i a.Id,.i a.F.N,.lst .u 1 (a.F.F.map AV.i),.i a.N.N,.i a.N.F])=p.map (ah .u):=by rw[<-g,List.map_set];rfl
  cases h;exact ZL (ZA f (ZA (be l) (ZA m q))) (ZA e g.symm)
 ·cases h;exact ZL d e
theorem w_dr(a:List aj){r:List aj}(h:CB a=some r):Ok Tryz.prog 62 [.lst .o 5 (a.map (ah .o))] (.lst .u 5 (r.map (ah .u))):=by
 refine ax aZ m62 rfl ?_;unfold CB at h;simp only[ZC,A62,V91,aB];obtain⟨k,c,h⟩:=ae h;obtain⟨d,b,h⟩:=bj h;have g:List.replicate (Int.toNat (a.length:Int)) (.agg [.i 0,.i 0,.lst .u 1 [],.i 0,.i 0]:AV)=d.map (ah .u):=by rw[<-b,List.map_replicate];rfl
 obtain⟨l,j,h⟩:=ae h;have f:=ZA (be c) g;try refine ZF f ?_
 refine aJ (bn (aF (w_l a) j ?_)) ?_
 ·exact ZK (ZA @S_l.eq_1 (ZA @wc.eq_1 (ZA b.symm @Zr)))
 ·simp only[ZC,wc,Ts];cases h;exact ZL f @V91.eq_1
theorem w_fm(a:aK){r:aK}(h:Oc a=some r):Ok Tryz.prog 26 [.agg [.lst .o 1 (a.F.N.map AV.z),.lst .o 4 (a.F.F.map (ai .o)),.lst .o 5 (a.N.map (ah .o))]] (.agg [.lst .u 1 (r.F.N.map AV.z),.lst .u 4 (r.F.F.map (ai .u)),.lst .u 5 (r.N.map (ah .u))]):=by
 refine ax aZ m26 rfl ?_;unfold Oc at h;simp only[ZC,A26,V26,aB];obtain⟨d,b,h⟩:=ae h;refine ZF trivial ?_;refine ZUG trivial (w_fj _ b) ?_;obtain⟨g,c,h⟩:=ae h;refine ZF trivial ?_;refine ZUG trivial (w_dr _ c) ?_;cases h;exact ZL trivial @V26.eq_1
theorem Sv(a:aq){r:aq}(h:wF a=some r):Ok Tryz.prog 15 [.agg [.lst .o 1 (a.F.F.N.map AV.z),.lst .o 4 (a.F.F.F.map (ai .o)),.lst .o 5 (a.F.N.map (ah .o)),.lst .o 5 (a.N.map (ah .o)),.lst .o 1 (a.L.map AV.i)]] (.agg [.lst .u 1 (r.F.F.N.map AV.z),.lst .u 4 (r.F.F.F.map (ai .u)),.lst .u 5 (r.F.N.map (ah .u)),.lst .u 5 (r.N.map (ah .u)),.lst .u 1 (r.L.map AV.i)]):=by
 refine ax aZ m15 rfl ?_;unfold wF at h;simp only[ZC,A15,lZ,aB];obtain⟨g,b,h⟩:=ae h;refine ZF trivial ?_;refine ZUG trivial (w_fm _ b) ?_;obtain⟨j,c,h⟩:=ae h;refine ZF trivial ?_;refine ZUG trivial (w_dr _ c) ?_;obtain⟨k,d,h⟩:=ae h;refine ZF trivial ?_;refine ZUG trivial (w_dq _ d) ?_;cases h;exact ZL trivial @lZ.eq_1
theorem w_d(c:Int)(d:Int)(g:Int){r:Bool}(h:M_d c d g=some r):Ok Tryz.prog 178 [.i c,.i d,.i g] (.b r):=by
 refine ax aZ m178 rfl ?_;unfold M_d at h;simp only[ZC,A178,eJ,aB];obtain⟨a,h⟩|⟨a,h⟩:=au h
 ·cases h;exact ZL a @eJ.eq_1
 ·cases h;exact ZL a @eJ.eq_1
theorem w_fn(i:Int){r:Bool}(h:Kk i=some r):Ok Tryz.prog 224 [.sc (.int .u8 i)] (.b r):=by
 have e:=@V91.eq_1;refine ax aZ m224 rfl ?_;unfold Kk at h;simp only[ZC,A224,V91,aB];obtain⟨a,h⟩|⟨a,h⟩:=au h
 ·obtain⟨c,h⟩|⟨c,h⟩:=au h
  ·cases h;exact ZL (ZA a c) e
  ·obtain⟨d,h⟩|⟨d,h⟩:=au h
   ·cases h;exact ZL (ZA a (ZA c d)) e
   ·cases h;exact ZL (ZA a (ZA c d)) e
 ·obtain⟨g,h⟩|⟨g,h⟩:=au h
  ·cases h;exact ZL (ZA a g) e
  ·cases h;exact ZL (ZA a g) e
def S_a(a:ByteArray)(v:Int):St:=⟨[(0,.z a),(3,.i v)],[]⟩
def bP(v:Unit):St:=⟨[],[]⟩
theorem w_a(a:ByteArray)(g:Int)(o:Int⊕(Unit⊕Bool))(h:M_a a g=some o):AWP (OkS Tryz.prog) yC (qL [0,3] [] (S_a a) (qS (qX 0 [] [] (bP)) (qR V91 (fun r=>.b r))) o) (S_a a g):=by
 have e:=ZA @S_a.eq_1 @bP.eq_1;unfold M_a at h;simp only[ZC,S_a,yC];obtain⟨c,h⟩|⟨c,h⟩:=au h
 ·obtain⟨k,i,h⟩:=ae h;obtain⟨l,j,h⟩:=ae h;have f:=ZA c (ko i);refine ZF f ?_;refine ZSG f (w_fn _ j) ?_;obtain⟨d,h⟩|⟨d,h⟩:=au h
  ·cases h;exact ZL (ZA f d) @V91.eq_1
  ·cases h;exact ZL (ZA f d) e
 ·cases h;exact ZL c e
theorem w_fo(a:ByteArray){r:Bool}(h:NZ a=some r):Ok Tryz.prog 187 [.z a] (.b r):=by
 refine ax aZ m187 rfl ?_;unfold NZ at h;simp only[ZC,A187,V91,aB];obtain⟨j,k,h⟩:=ae h;try refine ZF trivial ?_
 refine aJ (sh:=(fun v=>⟨[(0,.z a),(17,.b v)],[]⟩)) (s:=j) ?_ ?_
 ·replace h:=k;obtain⟨t,l,h⟩:=ae h;refine ZF trivial ?_;refine ZSG trivial (w_d _ _ _ l) ?_;obtain⟨c,h⟩|⟨c,h⟩:=au h
  ·cases h;exact ZL c trivial
  ·obtain⟨u,i,h⟩:=ae h;obtain⟨g,h⟩|⟨g,h⟩:=au h
   ·cases h;exact ZL (ZA c (ZA (ko i) g)) trivial
   ·cases h;exact ZL (ZA c (ZA (ko i) g)) trivial
 ·simp only[ZC,KO];obtain⟨d,h⟩|⟨d,h⟩:=au h
  ·cases h;exact ZL d @V91.eq_1
  ·obtain⟨m,p,h⟩:=ae h;try refine ZF d ?_
   refine bl (o:=m) (br cz (aF (w_a a) p ?_)) (fun w hv=>?_) (fun x hv e τ hne hq=>?_)
   ·exact ZK (ZA @S_a.eq_1 @bP.eq_1)
   ·subst hv;simp only[] at h;simp only[ZC,bP,Lw];cases h;exact ZL d @V91.eq_1
   ·subst hv;simp only[] at h;obtain⟨rfl,q⟩:=hq;cases h;exact q
def OE(a:List ByteArray)(b:ByteArray)(v:Int):St:=⟨[(0,.lst .o 1 (a.map AV.z)),(1,.z b),(5,.i v)],[]⟩
theorem w_bl(b:List ByteArray)(c:ByteArray)(g:Int)(o:Int⊕(Unit⊕Int))(h:ET b c g=some o):AWP (OkS Tryz.prog) yR (qL [0,1,5] [] (OE b c) (qS (qX 0 [] [] (bP)) (qR V85 (fun r=>.i r))) o) (OE b c g):=by
 have e:=ZA @OE.eq_1 @bP.eq_1;unfold ET at h;simp only[ZC,OE,yR];obtain⟨a,h⟩|⟨a,h⟩:=au h
 ·obtain⟨k,j,h⟩:=ae h;obtain⟨d,h⟩|⟨d,h⟩:=au h
  ·cases h;exact ZL (ZA a (ZA (aO j) d)) @V85.eq_1
  ·cases h;exact ZL (ZA a (ZA (aO j) d)) e
 ·cases h;exact ZL a e
theorem w_fp(a:List ByteArray)(b:ByteArray){r:Int}(h:GI a b=some r):Ok Tryz.prog 188 [.lst .o 1 (a.map AV.z),.z b] (.i r):=by
 refine ax aZ m188 rfl ?_;unfold GI at h;simp only[ZC,A188,V85,aB];obtain⟨c,d,h⟩:=ae h;try refine ZF trivial ?_
 refine bl (o:=c) (br cz (aF (w_bl a b) d ?_)) (fun j hv=>?_) (fun k hv e τ hne hq=>?_)
 ·exact ZK (ZA @OE.eq_1 @bP.eq_1)
 ·subst hv;simp only[] at h;simp only[ZC,bP,JF];cases h;exact ZL trivial @V85.eq_1
 ·subst hv;simp only[] at h;obtain⟨rfl,g⟩:=hq;cases h;exact g
theorem w_fq(c:ay)(j:Int){r:Bool}(h:Jp c j=some r):Ok Tryz.prog 189 [.agg [.i c.A,.i c.B,.i c.F,.i c.N],.i j] (.b r):=by
 have e:=@V85.eq_1;refine ax aZ m189 rfl ?_;unfold Jp at h;simp only[ZC,A189,V85,aB];obtain⟨q,k,h⟩:=ae h;refine ZF trivial ?_;refine ZSG trivial (w_d _ _ _ k) ?_;obtain⟨a,h⟩|⟨a,h⟩:=au h
 ·obtain⟨s,l,h⟩:=ae h;refine ZF a ?_;refine ZSG a (w_d _ _ _ l) ?_;obtain⟨d,h⟩|⟨d,h⟩:=au h
  ·obtain⟨t,m,h⟩:=ae h;have f:=ZA a d;refine ZF f ?_;refine ZSG f (w_d _ _ _ m) ?_;obtain⟨g,h⟩|⟨g,h⟩:=au h
   ·obtain⟨u,p,h⟩:=ae h;have f:=ZA f g;refine ZF f ?_;refine ZSG f (w_d _ _ _ p) ?_;cases h;exact ZL f e
   ·cases h;exact ZL (ZA f g) e
  ·cases h;exact ZL (ZA a d) e
 ·cases h;exact ZL a e
theorem w_fr(a:ay)(b:ay){r:Int}(h:NX a b=some r):Ok Tryz.prog 190 [.agg [.i a.A,.i a.B,.i a.F,.i a.N],.agg [.i b.A,.i b.B,.i b.F,.i b.N]] (.i r):=by
 have e:=@V85.eq_1;refine ax aZ m190 rfl ?_;unfold NX at h;simp only[ZC,A190,V85,aB];obtain⟨c,h⟩|⟨c,h⟩:=au h
 ·cases h;exact ZL c e
 ·obtain⟨d,h⟩|⟨d,h⟩:=au h
  ·cases h;exact ZL (ZA c d) e
  ·obtain⟨g,h⟩|⟨g,h⟩:=au h
   ·cases h;exact ZL (ZA c (ZA d g)) e
   ·cases h;exact ZL (ZA c (ZA d g)) e
def S_h(a:af)(v:Int):St:=⟨[(1,.pt 1 0 0),(3,.i v)],[(1,.var (.agg [.lst .o 1 (a.N.map AV.z),.lst .o 4 (a.F.map (ai .o))]))]⟩
def mB(a:af)(v:Unit):St:=⟨[(1,.pt 1 0 0)],[(1,.var (.agg [.lst .o 1 (a.N.map AV.z),.lst .o 4 (a.F.map (ai .o))]))]⟩
theorem w_h(a:af)(d:Int)(o:Int⊕(Unit⊕Bool))(h:M_h a d=some o):AWP (OkS Tryz.prog) ye (qL [1,3] [1] (S_h a) (qS (qX 0 [1] [1] (mB a)) (qR V91 (fun r=>.b r))) o) (S_h a d):=by
 have e:=ZA @S_h.eq_1 @mB.eq_1;unfold M_h at h;simp only[ZC,S_h,ye];obtain⟨c,h⟩|⟨c,h⟩:=au h
 ·obtain⟨k,l,h⟩:=ae h;try refine ZF c ?_
  refine aJ (sh:=(fun v=>⟨[(1,.pt 1 0 0),(3,.i d),(41,.b v)],[(1,.var (.agg [.lst .o 1 (a.N.map AV.z),.lst .o 4 (a.F.map (ai .o))]))]⟩)) (s:=k) ?_ ?_
  ·replace h:=l;obtain⟨t,m,h⟩:=ae h;obtain⟨u,p,h⟩:=ae h;have f:=ZA c (aO m);refine ZF f ?_;refine ZSG f (w_fo _ p) ?_;obtain⟨g,h⟩|⟨g,h⟩:=au h
   ·cases h;exact ZL (ZA f g) trivial
   ·obtain⟨w,q,h⟩:=ae h;have f:=ZA f g;refine ZF f ?_;refine ZSG f (w_fp _ _ q) ?_;cases h;exact ZL f trivial
  ·simp only[ZC,Kd];obtain⟨j,h⟩|⟨j,h⟩:=au h
   ·cases h;exact ZL (ZA c j) @V91.eq_1
   ·cases h;exact ZL (ZA c j) e
 ·cases h;exact ZL c e
def Oj(a:af)(v:Int):St:=⟨[(1,.pt 1 0 0),(4,.i v)],[(1,.var (.agg [.lst .o 1 (a.N.map AV.z),.lst .o 4 (a.F.map (ai .o))]))]⟩
theorem w_bm(c:af)(g:Int)(o:Int⊕(Unit⊕Bool))(h:EH c g=some o):AWP (OkS Tryz.prog) yL (qL [1,4] [1] (Oj c) (qS (qX 2 [] [] (bP)) (qR V91 (fun r=>.b r))) o) (Oj c g):=by
 have e:=ZA @Oj.eq_1 @bP.eq_1;unfold EH at h;simp only[ZC,Oj,yL];obtain⟨a,h⟩|⟨a,h⟩:=au h
 ·obtain⟨l,m,h⟩:=ae h;try refine ZF a ?_
  refine aJ (sh:=(fun v=>⟨[(1,.pt 1 0 0),(4,.i g),(77,.b v)],[(1,.var (.agg [.lst .o 1 (c.N.map AV.z),.lst .o 4 (c.F.map (ai .o))]))]⟩)) (s:=l) ?_ ?_
  ·replace h:=m;obtain⟨w,p,h⟩:=ae h;obtain⟨x,q,h⟩:=ae h;have f:=ZA a (aO p);refine ZF f ?_;refine ZSG f (w_fq _ _ q) ?_;obtain⟨d,h⟩|⟨d,h⟩:=au h
   ·cases h;exact ZL (ZA f d) trivial
   ·obtain⟨j,h⟩|⟨j,h⟩:=au h
    ·obtain⟨y,t,h⟩:=ae h;obtain⟨a1,u,h⟩:=ae h;have f:=ZA f (ZA d (ZA j (aO t)));refine ZF f ?_;refine ZSG f (w_fr _ _ u) ?_;cases h;exact ZL f trivial
    ·cases h;exact ZL (ZA f (ZA d j)) trivial
  ·simp only[ZC,Gf];obtain⟨k,h⟩|⟨k,h⟩:=au h
   ·cases h;exact ZL (ZA a k) @V91.eq_1
   ·cases h;exact ZL (ZA a k) e
 ·cases h;exact ZL a e
theorem UY(a:af){r:Bool}(h:yn a=some r):Ok Tryz.prog 138 [.agg [.lst .o 1 (a.N.map AV.z),.lst .o 4 (a.F.map (ai .o))]] (.b r):=by
 refine ax aZ m138 rfl ?_;unfold yn at h;simp only[ZC,A138,V91,aB];obtain⟨g,i,h⟩:=ae h;try refine ZF trivial ?_
 refine aJ (sh:=(fun v=>⟨[(1,.pt 1 0 0),(15,.b v)],[(1,.var (.agg [.lst .o 1 (a.N.map AV.z),.lst .o 4 (a.F.map (ai .o))]))]⟩)) (s:=g) ?_ ?_
 ·replace h:=i;obtain⟨u,j,h⟩:=ae h;refine ZF trivial ?_;refine ZSG trivial (w_d _ _ _ j) ?_;obtain⟨d,h⟩|⟨d,h⟩:=au h
  ·cases h;exact ZL d trivial
  ·cases h;exact ZL d trivial
 ·simp only[ZC,NS];obtain⟨c,h⟩|⟨c,h⟩:=au h
  ·cases h;exact ZL c @V91.eq_1
  ·obtain⟨k,l,h⟩:=ae h;try refine ZF c ?_
   refine bl (o:=k) (br cz (aF (w_h a) l ?_)) (fun w hv=>?_) (fun x hv e τ hne hq=>?_)
   ·exact ZK (ZA @S_h.eq_1 @mB.eq_1)
   ·subst hv;simp only[] at h;simp only[ZC,mB,Hb];obtain⟨m,p,h⟩:=ae h;try refine ZF c ?_
    refine bl (o:=m) (br cz (aF (w_bm a) p ?_)) (fun y hv=>?_) (fun a1 hv e τ hne hq=>?_)
    ·exact ZK (ZA @Oj.eq_1 @bP.eq_1)
    ·subst hv;simp only[] at h;simp only[ZC,bP,Nf];cases h;exact ZL c @V91.eq_1
    ·subst hv;simp only[] at h;obtain⟨rfl,q⟩:=hq;cases h;exact q
   ·subst hv;simp only[] at h;obtain⟨rfl,t⟩:=hq;cases h;exact t
theorem VJ(b:af)(g:Int)(j:Int){r:Int}(h:Ac b g j=some r):Ok Tryz.prog 246 [.agg [.lst .o 1 (b.N.map AV.z),.lst .o 4 (b.F.map (ai .o))],.i g,.i j] (.i r):=by
 refine ax aZ m246 rfl ?_;unfold Ac at h;simp only[ZC,A246,eJ,aB];obtain⟨k,c,h⟩:=ae h;obtain⟨a,h⟩|⟨a,h⟩:=au h
 ·cases h;exact ZL (ZA (aO c) a) @eJ.eq_1
 ·obtain⟨d,h⟩|⟨d,h⟩:=au h
  ·cases h;exact ZL (ZA (aO c) (ZA a d)) @eJ.eq_1
  ·cases h;exact ZL (ZA (aO c) (ZA a d)) @eJ.eq_1
def Jg(a:List Int)(b:Int)(v:Int):St:=⟨[(0,.lst .o 1 (a.map AV.i)),(1,.i b),(5,.i v)],[]⟩
theorem w_bk(c:List Int)(d:Int)(i:Int)(o:Int⊕(Unit⊕Bool))(h:Fy c d i=some o):AWP (OkS Tryz.prog) yh (qL [0,1,5] [] (Jg c d) (qS (qX 0 [] [] (bP)) (qR V85 (fun r=>.b r))) o) (Jg c d i):=by
 have e:=ZA @Jg.eq_1 @bP.eq_1;unfold Fy at h;simp only[ZC,Jg,yh];obtain⟨a,h⟩|⟨a,h⟩:=au h
 ·obtain⟨k,j,h⟩:=ae h;obtain⟨g,h⟩|⟨g,h⟩:=au h
  ·cases h;exact ZL (ZA a (ZA (aO j) g)) @V85.eq_1
  ·cases h;exact ZL (ZA a (ZA (aO j) g)) e
 ·cases h;exact ZL a e
theorem LX(a:List Int)(c:Int){r:Bool}(h:uF a c=some r):Ok Tryz.prog 144 [.lst .o 1 (a.map AV.i),.i c] (.b r):=by
 refine ax aZ m144 rfl ?_;unfold uF at h;simp only[ZC,A144,V85,aB];obtain⟨d,g,h⟩:=ae h;try refine ZF trivial ?_
 refine bl (o:=d) (br cz (aF (w_bk a c) g ?_)) (fun k hv=>?_) (fun l hv e τ hne hq=>?_)
 ·exact ZK (ZA @Jg.eq_1 @bP.eq_1)
 ·subst hv;simp only[] at h;simp only[ZC,bP,OL];cases h;exact ZL trivial @V85.eq_1
 ·subst hv;simp only[] at h;obtain⟨rfl,j⟩:=hq;cases h;exact j
def S_k(a:af)(b:ar)(v:Int×List Int):St:=⟨[(2,.pt 2 0 0),(3,.pt 3 0 0),(6,.sl 6 0 v.2.length),(7,.i v.1)],[(2,.var (.agg [.lst .o 1 (a.N.map AV.z),.lst .o 4 (a.F.map (ai .o))])),(3,.var (.agg [.i b.N,.lst .o 1 (b.F.map AV.i)])),(6,.arr 1 (v.2.map AV.i))]⟩
def rB(v:List Int):St:=⟨[(6,.sl 6 0 v.length)],[(6,.arr 1 (v.map AV.i))]⟩
theorem w_k(c:af)(d:ar)(a:Int×List Int)(o:(Int×List Int)⊕((List Int)⊕(List Int×Bool)))(h:M_k c d a=some o):AWP (OkS Tryz.prog) zl (qL [2,3,6,7] [2,3,6] (S_k c d) (qS (qX 0 [6] [6] (rB)) (qR mH (fun r=>.tup [.lst .u 1 (r.1.map AV.i),.b r.2]))) o) (S_k c d a):=by
 unfold M_k at h;simp only[ZC,S_k,zl];obtain⟨j,h⟩|⟨j,h⟩:=au h
 ·obtain⟨s1,b1,h⟩:=ae h;obtain⟨t1,c1,h⟩:=ae h;have f:=ZA j (aO b1);refine ZF f ?_;refine ZSG f (w_d _ _ _ c1) ?_;obtain⟨k,h⟩|⟨k,h⟩:=au h
  ·cases h;exact ZL (ZA f k) @mH.eq_1
  ·obtain⟨u1,d1,h⟩:=ae h;obtain⟨v1,g1,h⟩:=ae h;obtain⟨t,i1,h⟩:=ae h;have f:=ZA f (ZA k (ZA (be d1) g1));refine ZF f ?_;refine ZSG f (VJ _ _ _ i1) ?_;obtain⟨j1,k1,h⟩:=ae h;try refine ZF f ?_
   refine aJ (sh:=(fun v=>⟨[(2,.pt 2 0 0),(3,.pt 3 0 0),(6,.sl 6 0 a.2.length),(7,.i a.1),(8,.i t),(65,.b v)],[(2,.var (.agg [.lst .o 1 (c.N.map AV.z),.lst .o 4 (c.F.map (ai .o))])),(3,.var (.agg [.i d.N,.lst .o 1 (d.F.map AV.i)])),(6,.arr 1 (a.2.map AV.i))]⟩)) (s:=j1) ?_ ?_
   ·replace h:=k1;obtain⟨l,h⟩|⟨l,h⟩:=au h
    ·cases h;exact ZL (ZA f l) trivial
    ·obtain⟨w1,l1,h⟩:=ae h;have f:=ZA f l;refine ZF f ?_;refine ZSG f (LX _ _ l1) ?_;cases h;exact ZL f trivial
   ·simp only[ZC,HC];obtain⟨m,h⟩|⟨m,h⟩:=au h
    ·cases h;exact ZL (ZA f m) @mH.eq_1
    ·obtain⟨p,g,h⟩:=bj h;have m1:Row.arr 1 [(.i t:AV)]=Row.arr 1 (p.map AV.i):=by rw[<-g];rfl
     have w:p.length=1:=by rw[<-g];rfl
     obtain⟨y1,p1,h⟩:=ae h;have x:=be p1;obtain⟨y,q,h⟩:=bj h;have q1:a.2.map AV.i++p.map AV.i=y.map AV.i:=by rw[<-q,List.map_append]
     have a1:a.2.length+1=y.length:=by simp[<-g,<-q]<;>omega
     rw[a1] at x;cases h;exact ZL (ZA f (ZA m (ZA m1 (ZA w (ZA x (ZA q1 a1)))))) (ZA @S_k.eq_1 (ZA @rB.eq_1 (ZA g.symm (ZA q.symm w))))
 ·cases h;exact ZL j (ZA @S_k.eq_1 @rB.eq_1)
theorem w_dn(c:af)(a:ar){r:List Int×Bool}(h:Ee c a=some r):Ok Tryz.prog 220 [.agg [.lst .o 1 (c.N.map AV.z),.lst .o 4 (c.F.map (ai .o))],.agg [.i a.N,.lst .o 1 (a.F.map AV.i)]] (.tup [.lst .u 1 (r.1.map AV.i),.b r.2]):=by
 refine ax aZ m220 rfl ?_;unfold Ee at h;simp only[ZC,A220,mH,aB];obtain⟨g,j,h⟩:=bj h;have m:Row.arr 1 [(.i a.N:AV)]=Row.arr 1 (g.map AV.i):=by rw[<-j];rfl
 have d:g.length=1:=by rw[<-j];rfl
 obtain⟨p,q,h⟩:=ae h;have f:=ZA m d;try refine ZF f ?_
 refine aJ (sh:=(fun v=>⟨[(2,.pt 2 0 0),(3,.pt 3 0 0),(6,.sl 6 0 g.length),(25,.b v)],[(2,.var (.agg [.lst .o 1 (c.N.map AV.z),.lst .o 4 (c.F.map (ai .o))])),(3,.var (.agg [.i a.N,.lst .o 1 (a.F.map AV.i)])),(6,.arr 1 (g.map AV.i))]⟩)) (s:=p) ?_ ?_
 ·replace h:=q;obtain⟨a1,t,h⟩:=ae h;refine ZF f ?_;refine ZSG f (w_d _ _ _ t) ?_;obtain⟨k,h⟩|⟨k,h⟩:=au h
  ·cases h;exact ZL (ZA f k) (ZA j.symm d)
  ·cases h;exact ZL (ZA f k) (ZA j.symm d)
 ·simp only[ZC,LA];obtain⟨l,h⟩|⟨l,h⟩:=au h
  ·cases h;exact ZL (ZA f l) (ZA @mH.eq_1 d)
  ·obtain⟨w,x,h⟩:=ae h;have f:=ZA f l;try refine ZF f ?_
   refine bl (o:=w) (br cz (aF (w_k c a) x ?_)) (fun b1 hv=>?_) (fun c1 hv e τ hne hq=>?_)
   ·exact ZK (ZA @S_k.eq_1 (ZA @rB.eq_1 d))
   ·subst hv;simp only[] at h;simp only[ZC,rB,LI];cases h;exact ZL f (ZA @mH.eq_1 d)
   ·subst hv;simp only[] at h;obtain⟨rfl,y⟩:=hq;cases h;exact y
theorem w_eh(c:af)(d:ar){r:Bool}(h:DS c d=some r):Ok Tryz.prog 191 [.agg [.lst .o 1 (c.N.map AV.z),.lst .o 4 (c.F.map (ai .o))],.agg [.i d.N,.lst .o 1 (d.F.map AV.i)]] (.b r):=by
 refine ax aZ m191 rfl ?_;unfold DS at h;simp only[ZC,A191,V85,aB];obtain⟨k,g,h⟩:=ae h;refine ZF trivial ?_;refine ZSG trivial (UY _ g) ?_;obtain⟨a,h⟩|⟨a,h⟩:=au h
 ·cases h;exact ZL a @V85.eq_1
 ·obtain⟨l,j,h⟩:=ae h;refine ZF a ?_;refine ZUG a (w_dn _ _ j) ?_;cases h;exact ZL a @V85.eq_1
theorem w_fs(c:bd){r:Bool}(h:HM c=some r):Ok Tryz.prog 192 [.agg [.i c.N,.i c.F]] (.b r):=by
 refine ax aZ m192 rfl ?_;unfold HM at h;simp only[ZC,A192,V91,aB];obtain⟨j,d,h⟩:=ae h;refine ZF trivial ?_;refine ZSG trivial (w_d _ _ _ d) ?_;obtain⟨a,h⟩|⟨a,h⟩:=au h
 ·obtain⟨k,g,h⟩:=ae h;refine ZF a ?_;refine ZSG a (w_d _ _ _ g) ?_;cases h;exact ZL a @V91.eq_1
 ·cases h;exact ZL a @V91.eq_1
theorem w_ft(d:af)(a:aj){r:Bool}(h:NJ d a=some r):Ok Tryz.prog 139 [.agg [.lst .o 1 (d.N.map AV.z),.lst .o 4 (d.F.map (ai .o))],.agg [.i a.Id,.i a.F.N,.lst .o 1 (a.F.F.map AV.i),.i a.N.N,.i a.N.F]] (.b r):=by
 refine ax aZ m139 rfl ?_;unfold NJ at h;simp only[ZC,A139,V85,aB];obtain⟨m,j,h⟩:=ae h;refine ZF trivial ?_;refine ZSG trivial (w_d _ _ _ j) ?_;obtain⟨c,h⟩|⟨c,h⟩:=au h
 ·obtain⟨p,k,h⟩:=ae h;refine ZF c ?_;refine ZSG c (w_eh _ _ k) ?_;obtain⟨g,h⟩|⟨g,h⟩:=au h
  ·obtain⟨q,l,h⟩:=ae h;have f:=ZA c g;refine ZF f ?_;refine ZSG f (w_fs _ l) ?_;cases h;exact ZL f @V85.eq_1
  ·cases h;exact ZL (ZA c g) @V85.eq_1
 ·cases h;exact ZL c @V85.eq_1
def IY(a:ar)(b:List Int)(v:Int):St:=⟨[(1,.lst .o 1 (b.map AV.i)),(2,.pt 2 0 0),(5,.i v)],[(2,.var (.agg [.i a.N,.lst .o 1 (a.F.map AV.i)]))]⟩
theorem w_bn(a:ar)(c:List Int)(i:Int)(o:Int⊕(Unit⊕Bool))(h:Ey a c i=some o):AWP (OkS Tryz.prog) zS (qL [1,2,5] [2] (IY a c) (qS (qX 0 [] [] (bP)) (qR V85 (fun r=>.b r))) o) (IY a c i):=by
 have e:=ZA @IY.eq_1 @bP.eq_1;unfold Ey at h;simp only[ZC,IY,zS];obtain⟨d,h⟩|⟨d,h⟩:=au h
 ·obtain⟨l,j,h⟩:=ae h;obtain⟨m,k,h⟩:=ae h;have f:=ZA d (aO j);refine ZF f ?_;refine ZSG f (LX _ _ k) ?_;obtain⟨g,h⟩|⟨g,h⟩:=au h
  ·cases h;exact ZL (ZA f g) @V85.eq_1
  ·cases h;exact ZL (ZA f g) e
 ·cases h;exact ZL d e
theorem Tb(a:ar)(c:List Int){r:Bool}(h:vU a c=some r):Ok Tryz.prog 125 [.agg [.i a.N,.lst .o 1 (a.F.map AV.i)],.lst .o 1 (c.map AV.i)] (.b r):=by
 refine ax aZ m125 rfl ?_;unfold vU at h;simp only[ZC,A125,V85,aB];obtain⟨d,g,h⟩:=ae h;try refine ZF trivial ?_
 refine bl (o:=d) (br cz (aF (w_bn a c) g ?_)) (fun k hv=>?_) (fun l hv e τ hne hq=>?_)
 ·exact ZK (ZA @IY.eq_1 @bP.eq_1)
 ·subst hv;simp only[] at h;simp only[ZC,bP,Jt];cases h;exact ZL trivial @V85.eq_1
 ·subst hv;simp only[] at h;obtain⟨rfl,j⟩:=hq;cases h;exact j
theorem JK(a:bd){r:Int}(h:sj a=some r):Ok Tryz.prog 167 [.agg [.i a.N,.i a.F]] (.i r):=by
 refine ax aZ m167 rfl ?_;unfold sj at h;simp only[ZC,A167,V91,aB];obtain⟨d,b,h⟩:=ae h;obtain⟨g,c,h⟩:=ae h;cases h;exact ZL (ZA (be b) (be c)) @V91.eq_1
theorem w_fu(c:aj)(d:aj){r:Bool}(h:IX c d=some r):Ok Tryz.prog 140 [.agg [.i c.Id,.i c.F.N,.lst .o 1 (c.F.F.map AV.i),.i c.N.N,.i c.N.F],.agg [.i d.Id,.i d.F.N,.lst .o 1 (d.F.F.map AV.i),.i d.N.N,.i d.N.F]] (.b r):=by
 refine ax aZ m140 rfl ?_;unfold IX at h;simp only[ZC,A140,V85,aB];obtain⟨l,g,h⟩:=ae h;refine ZF trivial ?_;refine ZSG trivial (Tb _ _ g) ?_;obtain⟨a,h⟩|⟨a,h⟩:=au h
 ·obtain⟨m,j,h⟩:=ae h;refine ZF a ?_;refine ZSG a (JK _ j) ?_;obtain⟨p,k,h⟩:=ae h;refine ZF a ?_;refine ZSG a (JK _ k) ?_;cases h;exact ZL a @V85.eq_1
 ·cases h;exact ZL a @V85.eq_1
def S_r(a:aK)(b:Int)(v:Int):St:=⟨[(1,.pt 1 0 0),(3,.i b),(4,.i v)],[(1,.var (.agg [.lst .o 1 (a.F.N.map AV.z),.lst .o 4 (a.F.F.map (ai .o)),.lst .o 5 (a.N.map (ah .o))]))]⟩
def Qi(a:aK)(b:Int)(v:Unit):St:=⟨[(1,.pt 1 0 0),(3,.i b)],[(1,.var (.agg [.lst .o 1 (a.F.N.map AV.z),.lst .o 4 (a.F.F.map (ai .o)),.lst .o 5 (a.N.map (ah .o))]))]⟩
theorem w_r(a:aK)(c:Int)(i:Int)(o:Int⊕(Unit⊕Bool))(h:M_r a c i=some o):AWP (OkS Tryz.prog) La (qL [1,3,4] [1] (S_r a c) (qS (qX 2 [1,3] [1] (Qi a c)) (qR V91 (fun r=>.b r))) o) (S_r a c i):=by
 have e:=ZA @S_r.eq_1 @Qi.eq_1;unfold M_r at h;simp only[ZC,S_r,La];obtain⟨d,h⟩|⟨d,h⟩:=au h
 ·obtain⟨m,j,h⟩:=ae h;obtain⟨p,k,h⟩:=ae h;obtain⟨q,l,h⟩:=ae h;have f:=ZA d (ZA (aO j) (aO k));refine ZF f ?_;refine ZSG f (w_fu _ _ l) ?_;obtain⟨g,h⟩|⟨g,h⟩:=au h
  ·cases h;exact ZL (ZA f g) @V91.eq_1
  ·cases h;exact ZL (ZA f g) e
 ·cases h;exact ZL d e
def LC(a:aK)(v:Int):St:=⟨[(1,.pt 1 0 0),(3,.i v)],[(1,.var (.agg [.lst .o 1 (a.F.N.map AV.z),.lst .o 4 (a.F.F.map (ai .o)),.lst .o 5 (a.N.map (ah .o))]))]⟩
theorem w_bo(a:aK)(d:Int)(o:Int⊕(Unit⊕Bool))(h:Fh a d=some o):AWP (OkS Tryz.prog) JM (qL [1,3] [1] (LC a) (qS (qX 0 [] [] (bP)) (qR V91 (fun r=>.b r))) o) (LC a d):=by
 have e:=ZA @LC.eq_1 @bP.eq_1;unfold Fh at h;simp only[ZC,LC,JM];obtain⟨c,h⟩|⟨c,h⟩:=au h
 ·obtain⟨w,x,h⟩:=ae h;try refine ZF c ?_
  refine bl (sh:=(fun v=>⟨[(1,.pt 1 0 0),(3,.i d)],[(1,.var (.agg [.lst .o 1 (a.F.N.map AV.z),.lst .o 4 (a.F.F.map (ai .o)),.lst .o 5 (a.N.map (ah .o))]))]⟩)) (q:=(qR V91 (fun r=>.b r))) (o:=w) ?_ (fun j1 hv=>?_) (fun k1 hv e τ hne hq=>?_)
  ·replace h:=x;obtain⟨y,a1,h⟩:=ae h;try refine ZF c ?_
   refine aJ (sh:=(fun v=>⟨[(1,.pt 1 0 0),(3,.i d),(50,.b v)],[(1,.var (.agg [.lst .o 1 (a.F.N.map AV.z),.lst .o 4 (a.F.F.map (ai .o)),.lst .o 5 (a.N.map (ah .o))]))]⟩)) (s:=y) ?_ ?_
   ·replace h:=a1;obtain⟨l1,b1,h⟩:=ae h;obtain⟨m1,c1,h⟩:=ae h;have f:=ZA c (aO b1);refine ZF f ?_;refine ZSG f (w_ft _ _ c1) ?_;obtain⟨g,h⟩|⟨g,h⟩:=au h
    ·cases h;exact ZL (ZA f g) trivial
    ·obtain⟨j,h⟩|⟨j,h⟩:=au h
     ·obtain⟨p1,d1,h⟩:=ae h;cases h;exact ZL (ZA f (ZA g (ZA j (aO d1)))) trivial
     ·cases h;exact ZL (ZA f (ZA g j)) trivial
   ·simp only[ZC,Ul];obtain⟨k,h⟩|⟨k,h⟩:=au h
    ·cases h;exact ZL (ZA c k) @V91.eq_1
    ·obtain⟨l,m,h⟩:=ae h;try refine ZF (ZA c k) ?_
     first|refine nS (o:=l) (br cz (aF (w_r a d) m ?_)) (fun g1 hv τ p=>?_) (fun i1 hv e τ hne hq=>?_)|refine xb (o:=l) cz (aF (w_r a d) m ?_) (fun g1 hv τ p=>?_) (fun i1 hv e τ hne hq=>?_)
     ·exact ZK (ZA @S_r.eq_1 @Qi.eq_1)
     ·subst hv;simp only[] at h;cases h;try refine ZF trivial ?_
      refine⟨rfl,Shp.sub p (by decide) (by decide) ?_⟩;exact ZK @Qi.eq_1
     ·subst hv;simp only[] at h;obtain⟨rfl,t⟩:=hq;cases h;try refine ZF trivial ?_
      first|exact⟨by simp,t⟩|exact⟨by simp,rfl,t⟩
  ·subst hv;simp only[] at h;simp only[ZC,Um];cases h;exact ZL c e
  ·subst hv;simp only[] at h;obtain⟨rfl,u⟩:=hq;cases h;try refine ZF trivial ?_
   first|exact⟨by simp,u⟩|exact⟨by simp,rfl,u⟩
 ·cases h;exact ZL c e
theorem w_dg(a:aK){r:Bool}(h:xQ a=some r):Ok Tryz.prog 74 [.agg [.lst .o 1 (a.F.N.map AV.z),.lst .o 4 (a.F.F.map (ai .o)),.lst .o 5 (a.N.map (ah .o))]] (.b r):=by
 refine ax aZ m74 rfl ?_;unfold xQ at h;simp only[ZC,A74,V91,aB];obtain⟨g,i,h⟩:=ae h;try refine ZF trivial ?_
 refine aJ (sh:=(fun v=>⟨[(1,.pt 1 0 0),(14,.b v)],[(1,.var (.agg [.lst .o 1 (a.F.N.map AV.z),.lst .o 4 (a.F.F.map (ai .o)),.lst .o 5 (a.N.map (ah .o))]))]⟩)) (s:=g) ?_ ?_
 ·replace h:=i;obtain⟨p,j,h⟩:=ae h;refine ZF trivial ?_;refine ZSG trivial (UY _ j) ?_;obtain⟨d,h⟩|⟨d,h⟩:=au h
  ·cases h;exact ZL d trivial
  ·cases h;exact ZL d trivial
 ·simp only[ZC,TD];obtain⟨c,h⟩|⟨c,h⟩:=au h
  ·cases h;exact ZL c @V91.eq_1
  ·obtain⟨k,l,h⟩:=ae h;try refine ZF c ?_
   refine bl (o:=k) (br cz (aF (w_bo a) l ?_)) (fun q hv=>?_) (fun t hv e τ hne hq=>?_)
   ·exact ZK (ZA @LC.eq_1 @bP.eq_1)
   ·subst hv;simp only[] at h;simp only[ZC,bP,TU];cases h;exact ZL c @V91.eq_1
   ·subst hv;simp only[] at h;obtain⟨rfl,m⟩:=hq;cases h;exact m
def Nc(a:List Int)(b:Int)(c:Int)(v:Int):St:=⟨[(0,.lst .o 1 (a.map AV.i)),(1,.i b),(2,.i c),(7,.i v)],[]⟩
theorem w_bp(c:List Int)(d:Int)(g:Int)(k:Int)(o:Int⊕(Unit⊕Bool))(h:Fv c d g k=some o):AWP (OkS Tryz.prog) zF (qL [0,1,2,7] [] (Nc c d g) (qS (qX 0 [] [] (bP)) (qR eJ (fun r=>.b r))) o) (Nc c d g k):=by
 have e:=ZA @Nc.eq_1 @bP.eq_1;unfold Fv at h;simp only[ZC,Nc,zF];obtain⟨a,h⟩|⟨a,h⟩:=au h
 ·obtain⟨p,q,h⟩:=ae h;try refine ZF a ?_
  refine aJ (sh:=(fun v=>⟨[(0,.lst .o 1 (c.map AV.i)),(1,.i d),(2,.i g),(7,.i k),(37,.b v)],[]⟩)) (s:=p) ?_ ?_
  ·replace h:=q;obtain⟨x,t,h⟩:=ae h;obtain⟨y,u,h⟩:=ae h;have f:=ZA a (aO t);refine ZF f ?_;refine ZSG f (w_d _ _ _ u) ?_;obtain⟨j,h⟩|⟨j,h⟩:=au h
   ·cases h;exact ZL (ZA f j) trivial
   ·obtain⟨l,h⟩|⟨l,h⟩:=au h
    ·obtain⟨z,w,h⟩:=ae h;cases h;exact ZL (ZA f (ZA j (ZA l (aO w)))) trivial
    ·cases h;exact ZL (ZA f (ZA j l)) trivial
  ·simp only[ZC,Ge];obtain⟨m,h⟩|⟨m,h⟩:=au h
   ·cases h;exact ZL (ZA a m) @eJ.eq_1
   ·cases h;exact ZL (ZA a m) e
 ·cases h;exact ZL a e
theorem w_fv(a:List Int)(c:Int)(d:Int){r:Bool}(h:Ib a c d=some r):Ok Tryz.prog 121 [.lst .o 1 (a.map AV.i),.i c,.i d] (.b r):=by
 refine ax aZ m121 rfl ?_;unfold Ib at h;simp only[ZC,A121,eJ,aB];obtain⟨g,j,h⟩:=ae h;try refine ZF trivial ?_
 refine bl (o:=g) (br cz (aF (w_bp a c d) j ?_)) (fun l hv=>?_) (fun m hv e τ hne hq=>?_)
 ·exact ZK (ZA @Nc.eq_1 @bP.eq_1)
 ·subst hv;simp only[] at h;simp only[ZC,bP,Kq];cases h;exact ZL trivial @eJ.eq_1
 ·subst hv;simp only[] at h;obtain⟨rfl,k⟩:=hq;cases h;exact k
def OC(a:List aj)(b:Int)(v:Int):St:=⟨[(0,.lst .o 5 (a.map (ah .o))),(1,.i b),(5,.i v)],[]⟩
theorem w_bq(b:List aj)(c:Int)(g:Int)(o:Int⊕(Unit⊕Int))(h:Cd b c g=some o):AWP (OkS Tryz.prog) xT (qL [0,1,5] [] (OC b c) (qS (qX 0 [] [] (bP)) (qR V85 (fun r=>.i r))) o) (OC b c g):=by
 have e:=ZA @OC.eq_1 @bP.eq_1;unfold Cd at h;simp only[ZC,OC,xT];obtain⟨a,h⟩|⟨a,h⟩:=au h
 ·obtain⟨k,j,h⟩:=ae h;obtain⟨d,h⟩|⟨d,h⟩:=au h
  ·cases h;exact ZL (ZA a (ZA (aO j) d)) @V85.eq_1
  ·cases h;exact ZL (ZA a (ZA (aO j) d)) e
 ·cases h;exact ZL a e
theorem w_fw(a:List aj)(b:Int){r:Int}(h:Mq a b=some r):Ok Tryz.prog 115 [.lst .o 5 (a.map (ah .o)),.i b] (.i r):=by
 refine ax aZ m115 rfl ?_;unfold Mq at h;simp only[ZC,A115,V85,aB];obtain⟨c,d,h⟩:=ae h;try refine ZF trivial ?_
 refine bl (o:=c) (br cz (aF (w_bq a b) d ?_)) (fun j hv=>?_) (fun k hv e τ hne hq=>?_)
 ·exact ZK (ZA @OC.eq_1 @bP.eq_1)
 ·subst hv;simp only[] at h;simp only[ZC,bP,LW];cases h;exact ZL trivial @V85.eq_1
 ·subst hv;simp only[] at h;obtain⟨rfl,g⟩:=hq;cases h;exact g
theorem w_hp(a:af)(b:ar){r:List Int}(h:Ri a b=some r):Ok Tryz.prog 179 [.agg [.lst .o 1 (a.N.map AV.z),.lst .o 4 (a.F.map (ai .o))],.agg [.i b.N,.lst .o 1 (b.F.map AV.i)]] (.lst .u 1 (r.map AV.i)):=by
 refine ax aZ m179 rfl ?_;unfold Ri at h;simp only[ZC,A179,V85,aB];obtain⟨d,c,h⟩:=ae h;refine ZF trivial ?_;refine ZUG trivial (w_dn _ _ c) ?_;cases h;exact ZL trivial @V85.eq_1
theorem Ux(a:af)(b:ar){r:Int}(h:yG a b=some r):Ok Tryz.prog 126 [.agg [.lst .o 1 (a.N.map AV.z),.lst .o 4 (a.F.map (ai .o))],.agg [.i b.N,.lst .o 1 (b.F.map AV.i)]] (.i r):=by
 refine ax aZ m126 rfl ?_;unfold yG at h;simp only[ZC,A126,V85,aB];obtain⟨j,c,h⟩:=ae h;refine ZF trivial ?_;refine ZUG trivial (w_hp _ _ c) ?_;obtain⟨k,d,h⟩:=ae h;obtain⟨l,g,h⟩:=ae h;cases h;exact ZL (ZA (be d) g) @V85.eq_1
def EE(a:aq)(v:Int):St:=⟨[(1,.pt 1 0 0),(3,.pt 3 0 0),(4,.i v)],[(1,.var (.agg [.lst .o 1 (a.F.F.N.map AV.z),.lst .o 4 (a.F.F.F.map (ai .o)),.lst .o 5 (a.F.N.map (ah .o)),.lst .o 5 (a.N.map (ah .o)),.lst .o 1 (a.L.map AV.i)])),(3,.var (.agg [.lst .o 1 (a.F.F.N.map AV.z),.lst .o 4 (a.F.F.F.map (ai .o))]))]⟩
theorem w_bb(a:aq)(d:Int)(o:Int⊕(Unit⊕Bool))(h:EX a d=some o):AWP (OkS Tryz.prog) MJ (qL [1,3,4] [1,3] (EE a) (qS (qX 0 [] [] (bP)) (qR V91 (fun r=>.b r))) o) (EE a d):=by
 unfold EX at h;simp only[ZC,EE,MJ];obtain⟨g,h⟩|⟨g,h⟩:=au h
 ·obtain⟨c,q,h⟩:=ae h;obtain⟨t,u,h⟩:=ae h;have f:=ZA g (aO q);refine ZF f ?_;refine ZSG f (w_fw _ _ u) ?_;obtain⟨w,x,h⟩:=ae h;try refine ZF f ?_
  refine aJ (sh:=(fun v=>⟨[(1,.pt 1 0 0),(3,.pt 3 0 0),(4,.i d),(5,.pt 5 0 0),(6,.i t),(60,.b v)],[(1,.var (.agg [.lst .o 1 (a.F.F.N.map AV.z),.lst .o 4 (a.F.F.F.map (ai .o)),.lst .o 5 (a.F.N.map (ah .o)),.lst .o 5 (a.N.map (ah .o)),.lst .o 1 (a.L.map AV.i)])),(3,.var (.agg [.lst .o 1 (a.F.F.N.map AV.z),.lst .o 4 (a.F.F.F.map (ai .o))])),(5,.var (.agg [.i c.Id,.i c.F.N,.lst .o 1 (c.F.F.map AV.i),.i c.N.N,.i c.N.F]))]⟩)) (s:=w) ?_ ?_
  ·replace h:=x;obtain⟨j,h⟩|⟨j,h⟩:=au h
   ·cases h;exact ZL (ZA f j) trivial
   ·obtain⟨i1,y,h⟩:=ae h;have f:=ZA f j;refine ZF f ?_;refine ZSG f (Tb _ _ y) ?_;cases h;exact ZL f trivial
  ·simp only[ZC,TP];obtain⟨k,h⟩|⟨k,h⟩:=au h
   ·cases h;exact ZL (ZA f k) @V91.eq_1
   ·obtain⟨j1,a1,h⟩:=ae h;obtain⟨b1,c1,h⟩:=ae h;have f:=ZA f (ZA k (aO a1));try refine ZF f ?_
    refine aJ (sh:=(fun v=>⟨[(1,.pt 1 0 0),(3,.pt 3 0 0),(4,.i d),(92,.b v)],[(1,.var (.agg [.lst .o 1 (a.F.F.N.map AV.z),.lst .o 4 (a.F.F.F.map (ai .o)),.lst .o 5 (a.F.N.map (ah .o)),.lst .o 5 (a.N.map (ah .o)),.lst .o 1 (a.L.map AV.i)])),(3,.var (.agg [.lst .o 1 (a.F.F.N.map AV.z),.lst .o 4 (a.F.F.F.map (ai .o))]))]⟩)) (s:=b1) ?_ ?_
    ·replace h:=c1;obtain⟨l,h⟩|⟨l,h⟩:=au h
     ·cases h;exact ZL (ZA f l) trivial
     ·obtain⟨k1,d1,h⟩:=ae h;have f:=ZA f l;refine ZF f ?_;refine ZSG f (Ux _ _ d1) ?_;obtain⟨l1,g1,h⟩:=ae h;refine ZF f ?_;refine ZSG f (Ux _ _ g1) ?_;obtain⟨m,h⟩|⟨m,h⟩:=au h
      ·cases h;exact ZL (ZA f m) trivial
      ·cases h;exact ZL (ZA f m) trivial
    ·simp only[ZC,Tf];obtain⟨p,h⟩|⟨p,h⟩:=au h
     ·cases h;exact ZL (ZA f p) @V91.eq_1
     ·cases h;exact ZL (ZA f p) (ZA @EE.eq_1 @bP.eq_1)
 ·cases h;exact ZL g (ZA @EE.eq_1 @bP.eq_1)
theorem w_ek(a:aq){r:Bool}(h:CC a=some r):Ok Tryz.prog 61 [.agg [.lst .o 1 (a.F.F.N.map AV.z),.lst .o 4 (a.F.F.F.map (ai .o)),.lst .o 5 (a.F.N.map (ah .o)),.lst .o 5 (a.N.map (ah .o)),.lst .o 1 (a.L.map AV.i)]] (.b r):=by
 refine ax aZ m61 rfl ?_;unfold CC at h;simp only[ZC,A61,V91,aB];obtain⟨j,k,h⟩:=ae h;try refine ZF trivial ?_
 refine aJ (sh:=(fun v=>⟨[(1,.pt 1 0 0),(3,.pt 3 0 0),(32,.b v)],[(1,.var (.agg [.lst .o 1 (a.F.F.N.map AV.z),.lst .o 4 (a.F.F.F.map (ai .o)),.lst .o 5 (a.F.N.map (ah .o)),.lst .o 5 (a.N.map (ah .o)),.lst .o 1 (a.L.map AV.i)])),(3,.var (.agg [.lst .o 1 (a.F.F.N.map AV.z),.lst .o 4 (a.F.F.F.map (ai .o))]))]⟩)) (s:=j) ?_ ?_
 ·replace h:=k;obtain⟨w,l,h⟩:=ae h;refine ZF trivial ?_;refine ZSG trivial (w_dg _ l) ?_;obtain⟨c,h⟩|⟨c,h⟩:=au h
  ·cases h;exact ZL c trivial
  ·obtain⟨x,m,h⟩:=ae h;refine ZF c ?_;refine ZSG c (w_dg _ m) ?_;obtain⟨g,h⟩|⟨g,h⟩:=au h
   ·cases h;exact ZL (ZA c g) trivial
   ·obtain⟨y,p,h⟩:=ae h;have f:=ZA c g;refine ZF f ?_;refine ZSG f (w_fv _ _ _ p) ?_;cases h;exact ZL f trivial
 ·simp only[ZC,TA];obtain⟨d,h⟩|⟨d,h⟩:=au h
  ·cases h;exact ZL d @V91.eq_1
  ·obtain⟨q,t,h⟩:=ae h;try refine ZF d ?_
   refine bl (o:=q) (br cz (aF (w_bb a) t ?_)) (fun a1 hv=>?_) (fun b1 hv e τ hne hq=>?_)
   ·exact ZK (ZA @EE.eq_1 @bP.eq_1)
   ·subst hv;simp only[] at h;simp only[ZC,bP,TV];cases h;exact ZL d @V91.eq_1
   ·subst hv;simp only[] at h;obtain⟨rfl,u⟩:=hq;cases h;exact u
theorem w_hq(a:af){r:af}(h:Sm a=some r):Ok Tryz.prog 89 [.agg [.lst .o 1 (a.N.map AV.z),.lst .o 4 (a.F.map (ai .o))]] (.agg [.lst .u 1 (r.N.map AV.z),.lst .u 4 (r.F.map (ai .u))]):=by
 refine ax aZ m89 rfl ?_;unfold Sm at h;simp only[ZC,A89,V37,aB];obtain⟨d,b,h⟩:=ae h;obtain⟨g,c,h⟩:=ae h;cases h;exact ZL (ZA (be b) (be c)) @V37.eq_1
theorem w_n(a:List Int){r:List Int}(h:M_n a=some r):Ok Tryz.prog 194 [.lst .o 1 (a.map AV.i)] (.lst .u 1 (r.map AV.i)):=by
 refine ax aZ m194 rfl ?_;unfold M_n at h;simp only[ZC,A194,V91,aB];obtain⟨c,b,h⟩:=ae h;cases h;exact ZL (be b) @V91.eq_1
theorem w_ds(a:ar){r:ar}(h:CE a=some r):Ok Tryz.prog 193 [.agg [.i a.N,.lst .o 1 (a.F.map AV.i)]] (.agg [.i r.N,.lst .u 1 (r.F.map AV.i)]):=by
 refine ax aZ m193 rfl ?_;unfold CE at h;simp only[ZC,A193,V37,aB];obtain⟨c,b,h⟩:=ae h;refine ZF trivial ?_;refine ZUG trivial (w_n _ b) ?_;cases h;exact ZL trivial @V37.eq_1
theorem Sn(a:aj){r:aj}(h:tR a=some r):Ok Tryz.prog 141 [.agg [.i a.Id,.i a.F.N,.lst .o 1 (a.F.F.map AV.i),.i a.N.N,.i a.N.F]] (.agg [.i r.Id,.i r.F.N,.lst .u 1 (r.F.F.map AV.i),.i r.N.N,.i r.N.F]):=by
 refine ax aZ m141 rfl ?_;unfold tR at h;simp only[ZC,A141,lZ,aB];obtain⟨c,b,h⟩:=ae h;refine ZF trivial ?_;refine ZUG trivial (w_ds _ b) ?_;cases h;exact ZL trivial @lZ.eq_1
def S_m(b:aK)(a:af)(v:Int×List aj):St:=⟨[(1,.pt 1 0 0),(2,.pt 2 0 0),(3,.pt 3 0 0),(4,.i v.1)],[(1,.var (.agg [.lst .o 1 (b.F.N.map AV.z),.lst .o 4 (b.F.F.map (ai .o)),.lst .o 5 (b.N.map (ah .o))])),(2,.var (.agg [.lst .u 1 [],.lst .u 4 [],.lst .u 5 []])),(3,.var (.agg [.sl 500000192 0 a.N.length,.sl 500000193 0 a.F.length,.sl 500000194 0 v.2.length])),(500000192,.arr 1 (a.N.map AV.z)),(500000193,.arr 4 (a.F.map (ai .u))),(500000194,.arr 5 (v.2.map (ah .u)))]⟩
def wv(a:af)(v:List aj):St:=⟨[(2,.pt 2 0 0),(3,.pt 3 0 0)],[(2,.var (.agg [.lst .u 1 [],.lst .u 4 [],.lst .u 5 []])),(3,.var (.agg [.sl 500000192 0 a.N.length,.sl 500000193 0 a.F.length,.sl 500000194 0 v.length])),(500000192,.arr 1 (a.N.map AV.z)),(500000193,.arr 4 (a.F.map (ai .u))),(500000194,.arr 5 (v.map (ah .u)))]⟩
theorem w_m(d:aK)(g:af)(b:Int×List aj)(o:(Int×List aj)⊕(List aj))(h:M_m d b=some o):AWP (OkS Tryz.prog) Nd (qL [1,2,3,4] [1,2,3,500000192,500000193,500000194] (S_m d g) (qX 0 [2,3] [2,3,500000192,500000193,500000194] (wv g)) o) (S_m d g b):=by
 have e:=ZA @S_m.eq_1 @wv.eq_1;unfold M_m at h;simp only[ZC,S_m,Nd];obtain⟨j,h⟩|⟨j,h⟩:=au h
 ·obtain⟨z,t,h⟩:=ae h;obtain⟨a,v,h⟩:=ae h;have f:=ZA j (aO t);refine ZF f ?_;refine ZUG f (Sn _ v) ?_;obtain⟨k,c,h⟩:=bj h;have w:Row.arr 5 [(.agg [.i a.Id,.i a.F.N,.lst .u 1 (a.F.F.map AV.i),.i a.N.N,.i a.N.F]:AV)]=Row.arr 5 (k.map (ah .u)):=by rw[<-c];rfl
  have m:k.length=1:=by rw[<-c];rfl
  obtain⟨a1,x,h⟩:=ae h;have p:=be x;obtain⟨q,l,h⟩:=bj h;have y:b.2.map (ah .u)++k.map (ah .u)=q.map (ah .u):=by rw[<-l,List.map_append]
  have s:b.2.length+1=q.length:=by simp[<-c,<-l]<;>omega
  rw[s] at p;cases h;exact ZL (ZA f (ZA w (ZA m (ZA p (ZA y s))))) (ZA e (ZA c.symm (ZA l.symm m)))
 ·cases h;exact ZL j e
theorem w_dh(a:aK){r:aK}(h:xM a=some r):Ok Tryz.prog 75 [.agg [.lst .o 1 (a.F.N.map AV.z),.lst .o 4 (a.F.F.map (ai .o)),.lst .o 5 (a.N.map (ah .o))]] (.agg [.lst .u 1 (r.F.N.map AV.z),.lst .u 4 (r.F.F.map (ai .u)),.lst .u 5 (r.N.map (ah .u))]):=by
 refine ax aZ m75 rfl ?_;unfold xM at h;simp only[ZC,A75,V26,aB];obtain⟨b,c,h⟩:=ae h;refine ZF trivial ?_;refine ZUG trivial (w_hq _ c) ?_;obtain⟨g,d,h⟩:=ae h;try refine ZF trivial ?_
 refine aJ (bn (aF (w_m a b) d ?_)) ?_
 ·exact ZK (ZA @S_m.eq_1 @wv.eq_1)
 ·simp only[ZC,wv,Ui];cases h;exact ZL trivial @V26.eq_1
def KA(a:List aj)(v:Int×List aj):St:=⟨[(0,.lst .o 5 (a.map (ah .o))),(3,.sl 3 0 v.2.length),(4,.i v.1)],[(3,.arr 5 (v.2.map (ah .u)))]⟩
theorem w_bs(d:List aj)(b:Int×List aj)(o:(Int×List aj)⊕(List aj))(h:CI d b=some o):AWP (OkS Tryz.prog) LN (qL [0,3,4] [3] (KA d) (qX 0 [3] [3] (wc)) o) (KA d b):=by
 have e:=ZA @KA.eq_1 @wc.eq_1;unfold CI at h;simp only[ZC,KA,LN];obtain⟨g,h⟩|⟨g,h⟩:=au h
 ·obtain⟨y,s,h⟩:=ae h;obtain⟨a,t,h⟩:=ae h;have f:=ZA g (aO s);refine ZF f ?_;refine ZUG f (Sn _ t) ?_;obtain⟨j,c,h⟩:=bj h;have v:Row.arr 5 [(.agg [.i a.Id,.i a.F.N,.lst .u 1 (a.F.F.map AV.i),.i a.N.N,.i a.N.F]:AV)]=Row.arr 5 (j.map (ah .u)):=by rw[<-c];rfl
  have l:j.length=1:=by rw[<-c];rfl
  obtain⟨z,w,h⟩:=ae h;have m:=be w;obtain⟨p,k,h⟩:=bj h;have x:b.2.map (ah .u)++j.map (ah .u)=p.map (ah .u):=by rw[<-k,List.map_append]
  have q:b.2.length+1=p.length:=by simp[<-c,<-k]<;>omega
  rw[q] at m;cases h;exact ZL (ZA f (ZA v (ZA l (ZA m (ZA x q))))) (ZA e (ZA c.symm (ZA k.symm l)))
 ·cases h;exact ZL g e
theorem w_fx(a:List aj){r:List aj}(h:Lq a=some r):Ok Tryz.prog 76 [.lst .o 5 (a.map (ah .o))] (.lst .u 5 (r.map (ah .u))):=by
 refine ax aZ m76 rfl ?_;unfold Lq at h;simp only[ZC,A76,V91,aB];obtain⟨c,b,h⟩:=ae h;try refine ZF trivial ?_
 refine aJ (bn (aF (w_bs a) b ?_)) ?_
 ·exact ZK (ZA @KA.eq_1 @wc.eq_1)
 ·simp only[ZC,wc,TK];cases h;exact ZL trivial @V91.eq_1
theorem w_cu(a:aq){r:aq}(h:vz a=some r):Ok Tryz.prog 143 [.agg [.lst .o 1 (a.F.F.N.map AV.z),.lst .o 4 (a.F.F.F.map (ai .o)),.lst .o 5 (a.F.N.map (ah .o)),.lst .o 5 (a.N.map (ah .o)),.lst .o 1 (a.L.map AV.i)]] (.agg [.lst .u 1 (r.F.F.N.map AV.z),.lst .u 4 (r.F.F.F.map (ai .u)),.lst .u 5 (r.F.N.map (ah .u)),.lst .u 5 (r.N.map (ah .u)),.lst .u 1 (r.L.map AV.i)]):=by
 refine ax aZ m143 rfl ?_;unfold vz at h;simp only[ZC,A143,lZ,aB];obtain⟨g,b,h⟩:=ae h;refine ZF trivial ?_;refine ZUG trivial (w_dh _ b) ?_;obtain⟨j,c,h⟩:=ae h;refine ZF trivial ?_;refine ZUG trivial (w_fx _ c) ?_;obtain⟨k,d,h⟩:=ae h;refine ZF trivial ?_;refine ZUG trivial (w_n _ d) ?_;cases h;exact ZL trivial @lZ.eq_1
def Ly(a:aK)(b:Int)(v:Int):St:=⟨[(1,.i b),(2,.pt 2 0 0),(5,.i v)],[(2,.var (.agg [.lst .o 1 (a.F.N.map AV.z),.lst .o 4 (a.F.F.map (ai .o)),.lst .o 5 (a.N.map (ah .o))]))]⟩
theorem w_bt(b:aK)(c:Int)(g:Int)(o:Int⊕(Unit⊕Int))(h:DD b c g=some o):AWP (OkS Tryz.prog) zN (qL [1,2,5] [2] (Ly b c) (qS (qX 0 [] [] (bP)) (qR V85 (fun r=>.i r))) o) (Ly b c g):=by
 have e:=ZA @Ly.eq_1 @bP.eq_1;unfold DD at h;simp only[ZC,Ly,zN];obtain⟨a,h⟩|⟨a,h⟩:=au h
 ·obtain⟨k,j,h⟩:=ae h;obtain⟨d,h⟩|⟨d,h⟩:=au h
  ·cases h;exact ZL (ZA a (ZA (aO j) d)) @V85.eq_1
  ·cases h;exact ZL (ZA a (ZA (aO j) d)) e
 ·cases h;exact ZL a e
theorem w_fy(a:aK)(b:Int){r:Int}(h:Ot a b=some r):Ok Tryz.prog 116 [.agg [.lst .o 1 (a.F.N.map AV.z),.lst .o 4 (a.F.F.map (ai .o)),.lst .o 5 (a.N.map (ah .o))],.i b] (.i r):=by
 refine ax aZ m116 rfl ?_;unfold Ot at h;simp only[ZC,A116,V85,aB];obtain⟨c,d,h⟩:=ae h;try refine ZF trivial ?_
 refine bl (o:=c) (br cz (aF (w_bt a b) d ?_)) (fun j hv=>?_) (fun k hv e τ hne hq=>?_)
 ·exact ZK (ZA @Ly.eq_1 @bP.eq_1)
 ·subst hv;simp only[] at h;simp only[ZC,bP,Je];cases h;exact ZL trivial @V85.eq_1
 ·subst hv;simp only[] at h;obtain⟨rfl,g⟩:=hq;cases h;exact g
def Hq(a:aq)(v:Int×List Int):St:=⟨[(1,.pt 1 0 0),(3,.sl 3 0 v.2.length),(4,.i v.1)],[(1,.var (.agg [.lst .o 1 (a.F.F.N.map AV.z),.lst .o 4 (a.F.F.F.map (ai .o)),.lst .o 5 (a.F.N.map (ah .o)),.lst .o 5 (a.N.map (ah .o)),.lst .o 1 (a.L.map AV.i)])),(3,.arr 1 (v.2.map AV.i))]⟩
theorem w_bu(c:aq)(a:Int×List Int)(o:(Int×List Int)⊕(List Int))(h:CF c a=some o):AWP (OkS Tryz.prog) Iu (qL [1,3,4] [1,3] (Hq c) (qX 0 [3] [3] (lH)) o) (Hq c a):=by
 have e:=ZA @Hq.eq_1 @lH.eq_1;unfold CF at h;simp only[ZC,Hq,Iu];obtain⟨d,h⟩|⟨d,h⟩:=au h
 ·obtain⟨x,s,h⟩:=ae h;obtain⟨y,t,h⟩:=ae h;have f:=ZA d (aO s);refine ZF f ?_;refine ZSG f (w_fy _ _ t) ?_;obtain⟨g,h⟩|⟨g,h⟩:=au h
  ·obtain⟨j,b,h⟩:=bj h;have u:Row.arr 1 [(.i a.1:AV)]=Row.arr 1 (j.map AV.i):=by rw[<-b];rfl
   have l:j.length=1:=by rw[<-b];rfl
   obtain⟨z,v,h⟩:=ae h;have m:=be v;obtain⟨p,k,h⟩:=bj h;have w:a.2.map AV.i++j.map AV.i=p.map AV.i:=by rw[<-k,List.map_append]
   have q:a.2.length+1=p.length:=by simp[<-b,<-k]<;>omega
   rw[q] at m;cases h;exact ZL (ZA f (ZA g (ZA u (ZA l (ZA m (ZA w q)))))) (ZA e (ZA b.symm (ZA k.symm l)))
  ·cases h;exact ZL (ZA f g) e
 ·cases h;exact ZL d e
theorem w_el(a:aq){r:List Int}(h:Dj a=some r):Ok Tryz.prog 71 [.agg [.lst .o 1 (a.F.F.N.map AV.z),.lst .o 4 (a.F.F.F.map (ai .o)),.lst .o 5 (a.F.N.map (ah .o)),.lst .o 5 (a.N.map (ah .o)),.lst .o 1 (a.L.map AV.i)]] (.lst .u 1 (r.map AV.i)):=by
 refine ax aZ m71 rfl ?_;unfold Dj at h;simp only[ZC,A71,V91,aB];obtain⟨c,b,h⟩:=ae h;try refine ZF trivial ?_
 refine aJ (bn (aF (w_bu a) b ?_)) ?_
 ·exact ZK (ZA @Hq.eq_1 @lH.eq_1)
 ·simp only[ZC,lH,Uj];cases h;exact ZL trivial @V91.eq_1
def S_e(a:aK)(b:Int)(v:Int×Int):St:=⟨[(1,.i b),(2,.pt 2 0 0),(5,.i v.1),(6,.i v.2)],[(2,.var (.agg [.lst .o 1 (a.F.N.map AV.z),.lst .o 4 (a.F.F.map (ai .o)),.lst .o 5 (a.N.map (ah .o))]))]⟩
def lI(v:Int):St:=⟨[(5,.i v)],[]⟩
theorem w_e(a:aK)(b:Int)(g:Int×Int)(o:(Int×Int)⊕Int)(h:M_e a b g=some o):AWP (OkS Tryz.prog) Ai (qL [1,2,5,6] [2] (S_e a b) (qX 0 [5] [] (lI)) o) (S_e a b g):=by
 have e:=ZA @S_e.eq_1 @lI.eq_1;unfold M_e at h;simp only[ZC,S_e,Ai];obtain⟨c,h⟩|⟨c,h⟩:=au h
 ·obtain⟨l,i,h⟩:=ae h;obtain⟨m,j,h⟩:=ae h;have f:=ZA c (aO i);refine ZF f ?_;refine ZSG f (LX _ _ j) ?_;obtain⟨d,h⟩|⟨d,h⟩:=au h
  ·obtain⟨p,k,h⟩:=ae h;have f:=ZA f d;refine ZF f ?_;refine ZSG f (JK _ k) ?_;cases h;exact ZL f e
  ·cases h;exact ZL (ZA f d) e
 ·cases h;exact ZL c e
theorem w_fz(a:aK)(b:Int){r:Int}(h:Hp a b=some r):Ok Tryz.prog 200 [.agg [.lst .o 1 (a.F.N.map AV.z),.lst .o 4 (a.F.F.map (ai .o)),.lst .o 5 (a.N.map (ah .o))],.i b] (.i r):=by
 refine ax aZ m200 rfl ?_;unfold Hp at h;simp only[ZC,A200,V85,aB];obtain⟨d,c,h⟩:=ae h;try refine ZF trivial ?_
 refine aJ (bn (aF (w_e a b) c ?_)) ?_
 ·exact ZK (ZA @S_e.eq_1 @lI.eq_1)
 ·simp only[ZC,lI,Mj];cases h;exact ZL trivial @V85.eq_1
def Il(a:aK)(b:ar)(v:Int×Int):St:=⟨[(2,.pt 2 0 0),(3,.pt 3 0 0),(5,.i v.1),(6,.i v.2)],[(2,.var (.agg [.lst .o 1 (a.F.N.map AV.z),.lst .o 4 (a.F.F.map (ai .o)),.lst .o 5 (a.N.map (ah .o))])),(3,.var (.agg [.i b.N,.lst .o 1 (b.F.map AV.i)]))]⟩
theorem w_bc(a:aK)(b:ar)(d:Int×Int)(o:(Int×Int)⊕Int)(h:zW a b d=some o):AWP (OkS Tryz.prog) yp (qL [2,3,5,6] [2,3] (Il a b) (qX 0 [5] [] (lI)) o) (Il a b d):=by
 have e:=ZA @Il.eq_1 @lI.eq_1;unfold zW at h;simp only[ZC,Il,yp];obtain⟨c,h⟩|⟨c,h⟩:=au h
 ·obtain⟨j,g,h⟩:=ae h;obtain⟨k,i,h⟩:=ae h;have f:=ZA c (aO g);refine ZF f ?_;refine ZSG f (w_fz _ _ i) ?_;cases h;exact ZL f e
 ·cases h;exact ZL c e
theorem w_di(a:aK)(b:ar){r:Int}(h:xO a b=some r):Ok Tryz.prog 166 [.agg [.lst .o 1 (a.F.N.map AV.z),.lst .o 4 (a.F.F.map (ai .o)),.lst .o 5 (a.N.map (ah .o))],.agg [.i b.N,.lst .o 1 (b.F.map AV.i)]] (.i r):=by
 refine ax aZ m166 rfl ?_;unfold xO at h;simp only[ZC,A166,V85,aB];obtain⟨d,c,h⟩:=ae h;try refine ZF trivial ?_
 refine aJ (bn (aF (w_bc a b) c ?_)) ?_
 ·exact ZK (ZA @Il.eq_1 @lI.eq_1)
 ·simp only[ZC,lI,GL];cases h;exact ZL trivial @V85.eq_1
theorem w_ga(c:af)(j:Int)(k:Int){r:Bool}(h:Hc c j k=some r):Ok Tryz.prog 234 [.agg [.lst .o 1 (c.N.map AV.z),.lst .o 4 (c.F.map (ai .o))],.i j,.i k] (.b r):=by
 have e:=@eJ.eq_1;refine ax aZ m234 rfl ?_;unfold Hc at h;simp only[ZC,A234,eJ,aB];obtain⟨q,l,h⟩:=ae h;refine ZF trivial ?_;refine ZSG trivial (UY _ l) ?_;obtain⟨a,h⟩|⟨a,h⟩:=au h
 ·obtain⟨s,m,h⟩:=ae h;refine ZF a ?_;refine ZSG a (w_d _ _ _ m) ?_;obtain⟨d,h⟩|⟨d,h⟩:=au h
  ·obtain⟨t,p,h⟩:=ae h;have f:=ZA a d;refine ZF f ?_;refine ZSG f (w_d _ _ _ p) ?_;obtain⟨g,h⟩|⟨g,h⟩:=au h
   ·cases h;exact ZL (ZA f g) e
   ·cases h;exact ZL (ZA f g) e
  ·cases h;exact ZL (ZA a d) e
 ·cases h;exact ZL a e
def Hz(a:af)(b:ar)(v:Int×Int):St:=⟨[(2,.pt 2 0 0),(3,.pt 3 0 0),(5,.i v.1),(6,.i v.2)],[(2,.var (.agg [.lst .o 1 (a.N.map AV.z),.lst .o 4 (a.F.map (ai .o))])),(3,.var (.agg [.i b.N,.lst .o 1 (b.F.map AV.i)]))]⟩
theorem w_bv(a:af)(b:ar)(d:Int×Int)(o:(Int×Int)⊕Int)(h:Fo a b d=some o):AWP (OkS Tryz.prog) xw (qL [2,3,5,6] [2,3] (Hz a b) (qX 0 [5] [] (lI)) o) (Hz a b d):=by
 have e:=ZA @Hz.eq_1 @lI.eq_1;unfold Fo at h;simp only[ZC,Hz,xw];obtain⟨c,h⟩|⟨c,h⟩:=au h
 ·obtain⟨j,g,h⟩:=ae h;obtain⟨k,i,h⟩:=ae h;cases h;exact ZL (ZA c (ZA (aO g) (aO i))) e
 ·cases h;exact ZL c e
theorem w_dt(a:af)(b:ar){r:Int}(h:En a b=some r):Ok Tryz.prog 271 [.agg [.lst .o 1 (a.N.map AV.z),.lst .o 4 (a.F.map (ai .o))],.agg [.i b.N,.lst .o 1 (b.F.map AV.i)]] (.i r):=by
 refine ax aZ m271 rfl ?_;unfold En at h;simp only[ZC,A271,V85,aB];obtain⟨d,c,h⟩:=ae h;try refine ZF trivial ?_
 refine aJ (bn (aF (w_bv a b) c ?_)) ?_
 ·exact ZK (ZA @Hz.eq_1 @lI.eq_1)
 ·simp only[ZC,lI,Oi];cases h;exact ZL trivial @V85.eq_1
theorem Ss(c:Int){r:Int}(h:xq c=some r):Ok Tryz.prog 272 [.i c] (.i r):=by
 refine ax aZ m272 rfl ?_;unfold xq at h;simp only[ZC,A272,V91,aB];obtain⟨a,h⟩|⟨a,h⟩:=au h
 ·cases h;exact ZL a @V91.eq_1
 ·obtain⟨b,h⟩|⟨b,h⟩:=au h
  ·cases h;exact ZL (ZA a b) @V91.eq_1
  ·cases h;exact ZL (ZA a b) @V91.eq_1
def Kx(a:ar)(b:ar)(v:Int):St:=⟨[(4,.pt 4 0 0),(5,.pt 5 0 0),(9,.i v)],[(4,.var (.agg [.i a.N,.lst .o 1 (a.F.map AV.i)])),(5,.var (.agg [.i b.N,.lst .o 1 (b.F.map AV.i)]))]⟩
def AJ(a:ar)(b:ar)(v:Unit):St:=⟨[(4,.pt 4 0 0),(5,.pt 5 0 0)],[(4,.var (.agg [.i a.N,.lst .o 1 (a.F.map AV.i)])),(5,.var (.agg [.i b.N,.lst .o 1 (b.F.map AV.i)]))]⟩
theorem w_ae(a:ar)(b:ar)(g:Int)(o:Int⊕(Unit⊕Int))(h:Gb a b g=some o):AWP (OkS Tryz.prog) zP (qL [4,5,9] [4,5] (Kx a b) (qS (qX 0 [4,5] [4,5] (AJ a b)) (qR eJ (fun r=>.i r))) o) (Kx a b g):=by
 have e:=ZA @Kx.eq_1 @AJ.eq_1;unfold Gb at h;simp only[ZC,Kx,zP];obtain⟨c,h⟩|⟨c,h⟩:=au h
 ·obtain⟨m,j,h⟩:=ae h;obtain⟨p,k,h⟩:=ae h;obtain⟨d,h⟩|⟨d,h⟩:=au h
  ·obtain⟨q,l,h⟩:=ae h;have f:=ZA c (ZA (aO j) (ZA (aO k) d));refine ZF f ?_;refine ZSG f (Ss _ l) ?_;cases h;exact ZL f @eJ.eq_1
  ·cases h;exact ZL (ZA c (ZA (aO j) (ZA (aO k) d))) e
 ·cases h;exact ZL c e
theorem w_du(d:af)(b:ar)(c:ar){r:Int}(h:Ci d b c=some r):Ok Tryz.prog 267 [.agg [.lst .o 1 (d.N.map AV.z),.lst .o 4 (d.F.map (ai .o))],.agg [.i b.N,.lst .o 1 (b.F.map AV.i)],.agg [.i c.N,.lst .o 1 (c.F.map AV.i)]] (.i r):=by
 refine ax aZ m267 rfl ?_;unfold Ci at h;simp only[ZC,A267,eJ,aB];obtain⟨u,j,h⟩:=ae h;refine ZF trivial ?_;refine ZSG trivial (w_dt _ _ j) ?_;obtain⟨v,k,h⟩:=ae h;refine ZF trivial ?_;refine ZSG trivial (w_dt _ _ k) ?_;obtain⟨a,h⟩|⟨a,h⟩:=au h
 ·obtain⟨w,l,h⟩:=ae h;refine ZF a ?_;refine ZSG a (Ss _ l) ?_;cases h;exact ZL a @eJ.eq_1
 ·obtain⟨g,h⟩|⟨g,h⟩:=au h
  ·obtain⟨x,m,h⟩:=ae h;have f:=ZA a g;refine ZF f ?_;refine ZSG f (Ss _ m) ?_;cases h;exact ZL f @eJ.eq_1
  ·obtain⟨p,q,h⟩:=ae h;have f:=ZA a g;try refine ZF f ?_
   refine bl (o:=p) (br cz (aF (w_ae b c) q ?_)) (fun y hv=>?_) (fun a1 hv e τ hne hq=>?_)
   ·exact ZK (ZA @Kx.eq_1 @AJ.eq_1)
   ·subst hv;simp only[] at h;simp only[ZC,AJ,JS];obtain⟨b1,s,h⟩:=ae h;refine ZF f ?_;refine ZSG f (Ss _ s) ?_;cases h;exact ZL f @eJ.eq_1
   ·subst hv;simp only[] at h;obtain⟨rfl,t⟩:=hq;cases h;exact t
def tD(a:ar)(c:List ByteArray)(d:List ay)(g:Int)(b:List ar)(v:Int):St:=⟨[(0,.pt 1000000000 0 0),(3,.pt 3 0 0),(4,.i v)],[(3,.var (.agg [.i ((a).N),.lst .m 1 (((a).F).map AV.i)])),(1000000000,.var (.agg [.lst .o 1 (c.map AV.z),.lst .o 4 (d.map (ai .o)),.i g,.sl 1000000001 0 b.length])),(1000000001,.arr 2 (b.map (aA .u)))]⟩
theorem w_bd(a:ar)(b:List ByteArray)(c:List ay)(g:Int)(d:List ar)(k:Int)(o:Int⊕Int)(h:UB a b c d k=some o):AWP (OkS Tryz.prog) pu (qL [0,3,4] [3,1000000000,1000000001] (tD a b c g d) (qX 0 [0,3,4] [3,1000000000,1000000001] (tD a b c g d)) o) (tD a b c g d k):=by
 have e:=ZA @tD.eq_1 @tD.eq_1;unfold UB at h;simp only[ZC,tD,pu];obtain⟨i,h⟩|⟨i,h⟩:=au h
 ·obtain⟨q,l,h⟩:=ae h;obtain⟨s,m,h⟩:=ae h;obtain⟨t,p,h⟩:=ae h;have f:=ZA i (ZA (be l) m);refine ZF f ?_;refine ZSG f (w_du _ _ _ p) ?_;obtain⟨j,h⟩|⟨j,h⟩:=au h
  ·cases h;exact ZL (ZA f j) e
  ·cases h;exact ZL (ZA f j) e
 ·cases h;exact ZL i e
theorem w_ii(b:ar)(j:List ByteArray)(k:List ay)(l:Int)(a:List ar){r:List ByteArray×List ay×Int×List ar×List ar}(h:Wl b j k l a=some r):OkM Tryz.prog 257 [.pt 1000000000 0 0,.agg [.i ((b).N),.lst .m 1 (((b).F).map AV.i)]] [(1000000000,.var (.agg [.lst .o 1 (j.map AV.z),.lst .o 4 (k.map (ai .o)),.i l,.sl 1000000001 0 a.length])),(1000000001,.arr 2 (a.map (aA .u)))] (.tup []) ([(49,.arr 2 (r.2.2.2.1.map (aA .m))),(1000000000,.var (.agg [.lst .o 1 (r.1.map AV.z),.lst .o 4 (r.2.1.map (ai .o)),.i r.2.2.1,.sl 49 0 r.2.2.2.1.length])),(1000000001,.arr 2 (r.2.2.2.2.map (aA .u)))]):=by
 refine bJ (lr:=[49,1000000000,1000000001]) aZ Uz rfl rfl ?_;unfold Wl at h;simp only[ZC,Gh,co];obtain⟨p,d1,h⟩:=ae h;try refine ZF trivial ?_
 refine aJ (bn (aF (w_bd b j k l a) d1 ?_)) ?_
 ·exact ZK (ZA @tD.eq_1 @tD.eq_1)
 ·simp only[ZC,tD,uT];obtain⟨w1,g1,h⟩:=ae h;obtain⟨q,i1,h⟩:=bj h;have j1:sub (a.map (aA .u)) 0 (Int.toNat p)=q.map (aA .u):=by rw[de,i1]
  obtain⟨y1,k1,h⟩:=ae h;obtain⟨s,c,h⟩:=bj h;have l1:Row.arr 2 [(.agg [.i ((b).N),.lst .m 1 (((b).F).map AV.i)]:AV)]=Row.arr 2 (s.map (aA .m)):=by rw[<-c];rfl
  have w:s.length=1:=by rw[<-c];rfl
  obtain⟨z1,m1,h⟩:=ae h;have x:=be m1;obtain⟨d,g,h⟩:=bj h;have p1:q.map (aA .m)++s.map (aA .m)=d.map (aA .m):=by rw[<-g,List.map_append]
  have y:q.length+1=d.length:=by simp[<-c,<-g]<;>omega
  rw[y] at x;obtain⟨a2,q1,h⟩:=ae h;obtain⟨t,s1,h⟩:=bj h;have t1:sub (a.map (aA .u)) (Int.toNat p) (a.length-(Int.toNat p))=t.map (aA .u):=by rw[de,s1]
  obtain⟨b2,u1,h⟩:=ae h;have a1:=be u1;obtain⟨b1,v,h⟩:=bj h;have v1:d.map (aA .m)++t.map (aA .m)=b1.map (aA .m):=by rw[<-v,List.map_append]
  have c1:d.length+t.length=b1.length:=by simp[<-c,<-g,<-v]<;>omega
  rw[c1] at a1;cases h;exact ZL (ZA (be g1) (ZA j1 (ZA (be k1) (ZA l1 (ZA w (ZA x (ZA p1 (ZA y (ZA (be q1) (ZA t1 (ZA a1 (ZA v1 c1)))))))))))) (ZA @co.eq_1 (ZA c.symm (ZA g.symm (ZA v.symm w))))
def tG(a:ar)(c:List ByteArray)(d:List ay)(g:Int)(b:List ar)(v:Int):St:=⟨[(0,.pt 1000000000 0 0),(3,.pt 3 0 0),(4,.i v)],[(3,.var (.agg [.i ((a).N),.lst .m 1 (((a).F).map AV.i)])),(1000000000,.var (.agg [.lst .o 1 (c.map AV.z),.lst .o 4 (d.map (ai .o)),.i g,.sl 1000000001 0 b.length])),(1000000001,.arr 2 (b.map (aA .m)))]⟩
theorem w_aq(a:ar)(b:List ByteArray)(c:List ay)(g:Int)(d:List ar)(k:Int)(o:Int⊕Int)(h:Cv a b c d k=some o):AWP (OkS Tryz.prog) pn (qL [0,3,4] [3,1000000000,1000000001] (tG a b c g d) (qX 0 [0,3,4] [3,1000000000,1000000001] (tG a b c g d)) o) (tG a b c g d k):=by
 have e:=ZA @tG.eq_1 @tG.eq_1;unfold Cv at h;simp only[ZC,tG,pn];obtain⟨i,h⟩|⟨i,h⟩:=au h
 ·obtain⟨q,l,h⟩:=ae h;obtain⟨s,m,h⟩:=ae h;obtain⟨t,p,h⟩:=ae h;have f:=ZA i (ZA (be l) m);refine ZF f ?_;refine ZSG f (w_du _ _ _ p) ?_;obtain⟨j,h⟩|⟨j,h⟩:=au h
  ·cases h;exact ZL (ZA f j) e
  ·cases h;exact ZL (ZA f j) e
 ·cases h;exact ZL i e
theorem w_gb(b:ar)(j:List ByteArray)(k:List ay)(l:Int)(a:List ar){r:List ByteArray×List ay×Int×List ar×List ar}(h:Ob b j k l a=some r):OkM Tryz.prog 257 [.pt 1000000000 0 0,.agg [.i ((b).N),.lst .m 1 (((b).F).map AV.i)]] [(1000000000,.var (.agg [.lst .o 1 (j.map AV.z),.lst .o 4 (k.map (ai .o)),.i l,.sl 1000000001 0 a.length])),(1000000001,.arr 2 (a.map (aA .m)))] (.tup []) ([(49,.arr 2 (r.2.2.2.1.map (aA .m))),(1000000000,.var (.agg [.lst .o 1 (r.1.map AV.z),.lst .o 4 (r.2.1.map (ai .o)),.i r.2.2.1,.sl 49 0 r.2.2.2.1.length])),(1000000001,.arr 2 (r.2.2.2.2.map (aA .m)))]):=by
 refine bJ (lr:=[49,1000000000,1000000001]) aZ UL rfl rfl ?_;unfold Ob at h;simp only[ZC,Ny,co];obtain⟨p,c1,h⟩:=ae h;try refine ZF trivial ?_
 refine aJ (bn (aF (w_aq b j k l a) c1 ?_)) ?_
 ·exact ZK (ZA @tG.eq_1 @tG.eq_1)
 ·simp only[ZC,tG,xc];obtain⟨v1,d1,h⟩:=ae h;obtain⟨q,g1,h⟩:=bj h;have i1:sub (a.map (aA .m)) 0 (Int.toNat p)=q.map (aA .m):=by rw[de,g1]
  obtain⟨w1,j1,h⟩:=ae h;obtain⟨s,c,h⟩:=bj h;have k1:Row.arr 2 [(.agg [.i ((b).N),.lst .m 1 (((b).F).map AV.i)]:AV)]=Row.arr 2 (s.map (aA .m)):=by rw[<-c];rfl
  have v:s.length=1:=by rw[<-c];rfl
  obtain⟨y1,l1,h⟩:=ae h;have w:=be l1;obtain⟨d,g,h⟩:=bj h;have m1:q.map (aA .m)++s.map (aA .m)=d.map (aA .m):=by rw[<-g,List.map_append]
  have x:q.length+1=d.length:=by simp[<-c,<-g]<;>omega
  rw[x] at w;obtain⟨z1,p1,h⟩:=ae h;obtain⟨t,q1,h⟩:=bj h;have s1:sub (a.map (aA .m)) (Int.toNat p) (a.length-(Int.toNat p))=t.map (aA .m):=by rw[de,q1]
  obtain⟨a2,t1,h⟩:=ae h;have y:=be t1;obtain⟨a1,u,h⟩:=bj h;have u1:d.map (aA .m)++t.map (aA .m)=a1.map (aA .m):=by rw[<-u,List.map_append]
  have b1:d.length+t.length=a1.length:=by simp[<-c,<-g,<-u]<;>omega
  rw[b1] at y;cases h;exact ZL (ZA (be d1) (ZA i1 (ZA (be j1) (ZA k1 (ZA v (ZA w (ZA m1 (ZA x (ZA (be p1) (ZA s1 (ZA y (ZA u1 b1)))))))))))) (ZA @co.eq_1 (ZA c.symm (ZA g.symm (ZA u.symm v))))
def Ls(b:Int)(c:List Int)(a:List Int)(d:Int)(v:Int×List ByteArray×List ay×Int×List ar):St:=⟨[(0,.pt 1000000000 0 0),(2,.sl 1000000003 0 a.length),(4,.pt 4 0 0),(6,.i d),(7,.i v.1)],[(4,.var (.agg [.i b,.lst .m 1 (c.map AV.i)])),(470000003,.arr 2 (v.2.2.2.2.map (aA .m))),(1000000000,.var (.agg [.lst .o 1 (v.2.1.map AV.z),.lst .o 4 (v.2.2.1.map (ai .o)),.i v.2.2.2.1,.sl 470000003 0 v.2.2.2.2.length])),(1000000003,.arr 1 (a.map AV.i))]⟩
def Bd(a:List Int)(v:List ByteArray×List ay×Int×List ar):St:=⟨[],[(470000003,.arr 2 (v.2.2.2.map (aA .m))),(1000000000,.var (.agg [.lst .o 1 (v.1.map AV.z),.lst .o 4 (v.2.1.map (ai .o)),.i v.2.2.1,.sl 470000003 0 v.2.2.2.length])),(1000000003,.arr 1 (a.map AV.i))]⟩
theorem w_af(j:Int)(u:List ByteArray)(w:List ay)(x:Int)(p:List ar)(d:List Int)(c:List Int)(i1:Int->List ByteArray->List ay->Int->List ar->List Int->List Int->Option (List ByteArray×List ay×Int×List ar×List Int))(k:Int)(y1:∀(j:Int)(u:List ByteArray)(w:List ay)(x:Int)(p:List ar)(d:List Int)(c:List Int){r:List ByteArray×List ay×Int×List ar×List Int},i1 j u w x p d c=some r->OkM Tryz.prog 249 [.pt 1000000000 0 0,.agg [.i j,.sl 1000000002 0 d.length],.sl 1000000003 0 c.length] [(1000000000,.var (.agg [.lst .o 1 (u.map AV.z),.lst .o 4 (w.map (ai .o)),.i x,.sl 1000000001 0 p.length])),(1000000001,.arr 2 (p.map (aA .m))),(1000000002,.arr 1 (d.map AV.i)),(1000000003,.arr 1 (c.map AV.i))] (.tup []) ([(470000003,.arr 2 (r.2.2.2.1.map (aA .m))),(1000000000,.var (.agg [.lst .o 1 (r.1.map AV.z),.lst .o 4 (r.2.1.map (ai .o)),.i r.2.2.1,.sl 470000003 0 r.2.2.2.1.length])),(1000000003,.arr 1 (r.2.2.2.2.map AV.i))]))(a:Int×List ByteArray×List ay×Int×List ar)(o:(Int×List ByteArray×List ay×Int×List ar)⊕(List ByteArray×List ay×Int×List ar))(h:HP j d c i1 k a=some o):AWP (OkS Tryz.prog) qc (qL [0,2,4,6,7] [4,470000003,1000000000,1000000003] (Ls j d c k) (qX 0 [] [470000003,1000000000,1000000003] (Bd c)) o) (Ls j d c k a):=by
 have e:=ZA @Ls.eq_1 @Bd.eq_1;unfold HP at h;simp only[ZC,Ls,qc];obtain⟨z1,a2,h⟩:=ae h;try refine ZF trivial ?_
 refine aJ (sh:=(fun v=>⟨[(0,.pt 1000000000 0 0),(2,.sl 1000000003 0 c.length),(4,.pt 4 0 0),(6,.i k),(7,.i a.1),(39,.b v)],[(4,.var (.agg [.i j,.lst .m 1 (d.map AV.i)])),(470000003,.arr 2 (a.2.2.2.2.map (aA .m))),(1000000000,.var (.agg [.lst .o 1 (a.2.1.map AV.z),.lst .o 4 (a.2.2.1.map (ai .o)),.i a.2.2.2.1,.sl 470000003 0 a.2.2.2.2.length])),(1000000003,.arr 1 (c.map AV.i))]⟩)) (s:=z1) ?_ ?_
 ·replace h:=a2;obtain⟨y,h⟩|⟨y,h⟩:=au h
  ·cases h;exact ZL y trivial
  ·cases h;exact ZL y trivial
 ·simp only[ZC,vE];obtain⟨g,h⟩|⟨g,h⟩:=au h
  ·obtain⟨j1,b2,h⟩:=ae h;refine ZF g ?_;refine ZSG g (VJ _ _ _ b2) ?_;obtain⟨c2,d2,h⟩:=ae h;try refine ZF g ?_
   refine aJ (sh:=(fun v=>⟨[(0,.pt 1000000000 0 0),(2,.sl 1000000003 0 c.length),(4,.pt 4 0 0),(6,.i k),(7,.i a.1),(8,.i j1),(56,.b v)],[(4,.var (.agg [.i j,.lst .m 1 (d.map AV.i)])),(470000003,.arr 2 (a.2.2.2.2.map (aA .m))),(1000000000,.var (.agg [.lst .o 1 (a.2.1.map AV.z),.lst .o 4 (a.2.2.1.map (ai .o)),.i a.2.2.2.1,.sl 470000003 0 a.2.2.2.2.length])),(1000000003,.arr 1 (c.map AV.i))]⟩)) (s:=c2) ?_ ?_
   ·replace h:=d2;obtain⟨a1,h⟩|⟨a1,h⟩:=au h
    ·obtain⟨u2,g2,h⟩:=ae h;have f:=ZA g a1;refine ZF f ?_;refine ZSG f (LX _ _ g2) ?_;cases h;exact ZL f trivial
    ·cases h;exact ZL (ZA g a1) trivial
   ·simp only[ZC,vS];obtain⟨b1,h⟩|⟨b1,h⟩:=au h
    ·obtain⟨k1,i2,h⟩:=ae h;have f:=ZA g b1;refine ZF f ?_;refine ZUG f (w_n _ i2) ?_;obtain⟨c1,l,h⟩:=bj h;have j2:Row.arr 1 [(.i a.1:AV)]=Row.arr 1 (c1.map AV.i):=by rw[<-l];rfl
     have l1:c1.length=1:=by rw[<-l];rfl
     obtain⟨v2,k2,h⟩:=ae h;have m1:=be k2;obtain⟨p1,q,h⟩:=bj h;have l2:k1.map AV.i++c1.map AV.i=p1.map AV.i:=by rw[<-q,List.map_append]
     have q1:k1.length+1=p1.length:=by simp[<-l,<-q]<;>omega
     rw[q1] at m1;obtain⟨s1,m2,h⟩:=ae h;have f:=ZA f (ZA j2 (ZA l1 (ZA m1 (ZA l2 q1))));refine ZF f ?_;refine ZUG f (w_n _ m2) ?_;obtain⟨d1,t,h⟩:=bj h;have p2:Row.arr 1 [(.i j1:AV)]=Row.arr 1 (d1.map AV.i):=by rw[<-t];rfl
     have t1:d1.length=1:=by rw[<-t];rfl
     obtain⟨w2,q2,h⟩:=ae h;have u1:=be q2;obtain⟨v1,g1,h⟩:=bj h;have s2:s1.map AV.i++d1.map AV.i=v1.map AV.i:=by rw[<-g1,List.map_append]
     have w1:s1.length+1=v1.length:=by simp[<-l,<-q,<-t,<-g1]<;>omega
     rw[w1] at u1;obtain⟨x2,t2,h⟩:=ae h;have f:=ZA f (ZA p2 (ZA t1 (ZA u1 (ZA s2 w1))));refine ZF f ?_;refine ZWG f (y1 _ _ _ _ _ _ _ t2) [470000003,1000000000,1000000003] [477300003] ?_;cases h;exact ZL f (ZA e (ZA l.symm (ZA q.symm (ZA t.symm (ZA g1.symm (ZA l1 t1))))))
    ·cases h;exact ZL (ZA g b1) e
  ·cases h;exact ZL g e
theorem XF(l:Int->List ByteArray->List ay->Int->List ar->List Int->List Int->Option (List ByteArray×List ay×Int×List ar×List Int))(q:∀(d:Int)(g:List ByteArray)(j:List ay)(k:Int)(a:List ar)(b:List Int)(c:List Int){r:List ByteArray×List ay×Int×List ar×List Int},l d g j k a b c=some r->OkM Tryz.prog 249 [.pt 1000000000 0 0,.agg [.i d,.sl 1000000002 0 b.length],.sl 1000000003 0 c.length] [(1000000000,.var (.agg [.lst .o 1 (g.map AV.z),.lst .o 4 (j.map (ai .o)),.i k,.sl 1000000001 0 a.length])),(1000000001,.arr 2 (a.map (aA .m))),(1000000002,.arr 1 (b.map AV.i)),(1000000003,.arr 1 (c.map AV.i))] (.tup []) ([(470000003,.arr 2 (r.2.2.2.1.map (aA .m))),(1000000000,.var (.agg [.lst .o 1 (r.1.map AV.z),.lst .o 4 (r.2.1.map (ai .o)),.i r.2.2.1,.sl 470000003 0 r.2.2.2.1.length])),(1000000003,.arr 1 (r.2.2.2.2.map AV.i))]))(d:Int)(g:List ByteArray)(j:List ay)(k:Int)(a:List ar)(b:List Int)(c:List Int){r:List ByteArray×List ay×Int×List ar×List Int}(h:Ep l d g j k a b c=some r):OkM Tryz.prog 249 [.pt 1000000000 0 0,.agg [.i d,.sl 1000000002 0 b.length],.sl 1000000003 0 c.length] [(1000000000,.var (.agg [.lst .o 1 (g.map AV.z),.lst .o 4 (j.map (ai .o)),.i k,.sl 1000000001 0 a.length])),(1000000001,.arr 2 (a.map (aA .m))),(1000000002,.arr 1 (b.map AV.i)),(1000000003,.arr 1 (c.map AV.i))] (.tup []) ([(470000003,.arr 2 (r.2.2.2.1.map (aA .m))),(1000000000,.var (.agg [.lst .o 1 (r.1.map AV.z),.lst .o 4 (r.2.1.map (ai .o)),.i r.2.2.1,.sl 470000003 0 r.2.2.2.1.length])),(1000000003,.arr 1 (r.2.2.2.2.map AV.i))]):=by
 refine bJ (lr:=[470000003,1000000000,1000000003]) aZ WI rfl rfl ?_;unfold Ep at h;simp only[ZC,MQ,co];obtain⟨y,s,h⟩:=ae h;obtain⟨t,u,h⟩:=ae h;obtain⟨p,h⟩|⟨p,h⟩:=au h
 ·obtain⟨a1,x,h⟩:=ae h;have f:=ZA (be s) (ZA u p);refine ZF f ?_;refine ZWG f (w_gb _ _ _ _ _ x) [49,1000000000,1000000001] [2400049] ?_;cases h;exact ZL f @co.eq_1
 ·obtain⟨b1,v,h⟩:=ae h;try refine ZF (ZA (be s) (ZA u p)) ?_
  first|refine eE (bn (aF (w_af d g j k a b c l t q) v ?_)) (fun τ w=>?_)|refine fV (aF (w_af d g j k a b c l t q) v ?_) (fun τ w=>?_)
  ·exact ZK (ZA @Ls.eq_1 @Bd.eq_1)
  ·cases h;refine kG w (by decide) ?_ rfl;exact ZK (ZA @co.eq_1 @Bd.eq_1)
theorem w_cp:∀(n:Nat)(d:Int)(g:List ByteArray)(j:List ay)(k:Int)(a:List ar)(b:List Int)(c:List Int){r:List ByteArray×List ay×Int×List ar×List Int}(_:xJ n d g j k a b c=some r),OkM Tryz.prog 249 [.pt 1000000000 0 0,.agg [.i d,.sl 1000000002 0 b.length],.sl 1000000003 0 c.length] [(1000000000,.var (.agg [.lst .o 1 (g.map AV.z),.lst .o 4 (j.map (ai .o)),.i k,.sl 1000000001 0 a.length])),(1000000001,.arr 2 (a.map (aA .m))),(1000000002,.arr 1 (b.map AV.i)),(1000000003,.arr 1 (c.map AV.i))] ((fun(r:List ByteArray×List ay×Int×List ar×List Int)=>.tup []) r) ((fun(r:List ByteArray×List ay×Int×List ar×List Int)=>[(470000003,.arr 2 (r.2.2.2.1.map (aA .m))),(1000000000,.var (.agg [.lst .o 1 (r.1.map AV.z),.lst .o 4 (r.2.1.map (ai .o)),.i r.2.2.1,.sl 470000003 0 r.2.2.2.1.length])),(1000000003,.arr 1 (r.2.2.2.2.map AV.i))]) r)
 |0,d,g,j,k,a,b,c,_,h=>by cases h
 |n+1,d,g,j,k,a,b,c,_,h=>XF (xJ n) (w_cp n) d g j k a b c h
def OA(b:Int)(a:List Int)(c:Int)(v:Int×List ByteArray×List ay×Int×List ar):St:=⟨[(0,.pt 1000000000 0 0),(2,.sl 1000000001 0 a.length),(4,.pt 4 0 0),(6,.i c),(7,.i v.1)],[(4,.var (.agg [.i b,.lst .m 1 []])),(470000003,.arr 2 (v.2.2.2.2.map (aA .m))),(1000000000,.var (.agg [.lst .o 1 (v.2.1.map AV.z),.lst .o 4 (v.2.2.1.map (ai .o)),.i v.2.2.2.1,.sl 470000003 0 v.2.2.2.2.length])),(1000000001,.arr 1 (a.map AV.i))]⟩
def Bz(a:List Int)(v:List ByteArray×List ay×Int×List ar):St:=⟨[],[(470000003,.arr 2 (v.2.2.2.map (aA .m))),(1000000000,.var (.agg [.lst .o 1 (v.1.map AV.z),.lst .o 4 (v.2.1.map (ai .o)),.i v.2.2.1,.sl 470000003 0 v.2.2.2.length])),(1000000001,.arr 1 (a.map AV.i))]⟩
theorem w_as(g:Int)(d:List Int)(j:Int)(a:Int×List ByteArray×List ay×Int×List ar)(o:(Int×List ByteArray×List ay×Int×List ar)⊕(List ByteArray×List ay×Int×List ar))(h:VC g d j a=some o):AWP (OkS Tryz.prog) rj (qL [0,2,4,6,7] [4,470000003,1000000000,1000000001] (OA g d j) (qX 0 [] [470000003,1000000000,1000000001] (Bz d)) o) (OA g d j a):=by
 have e:=ZA @OA.eq_1 @Bz.eq_1;unfold VC at h;simp only[ZC,OA,rj];obtain⟨q1,s1,h⟩:=ae h;try refine ZF trivial ?_
 refine aJ (sh:=(fun v=>⟨[(0,.pt 1000000000 0 0),(2,.sl 1000000001 0 d.length),(4,.pt 4 0 0),(6,.i j),(7,.i a.1),(39,.b v)],[(4,.var (.agg [.i g,.lst .m 1 []])),(470000003,.arr 2 (a.2.2.2.2.map (aA .m))),(1000000000,.var (.agg [.lst .o 1 (a.2.1.map AV.z),.lst .o 4 (a.2.2.1.map (ai .o)),.i a.2.2.2.1,.sl 470000003 0 a.2.2.2.2.length])),(1000000001,.arr 1 (d.map AV.i))]⟩)) (s:=q1) ?_ ?_
 ·replace h:=s1;obtain⟨q,h⟩|⟨q,h⟩:=au h
  ·cases h;exact ZL q trivial
  ·cases h;exact ZL q trivial
 ·simp only[ZC,vx];obtain⟨c,h⟩|⟨c,h⟩:=au h
  ·obtain⟨a1,t1,h⟩:=ae h;refine ZF c ?_;refine ZSG c (VJ _ _ _ t1) ?_;obtain⟨u1,v1,h⟩:=ae h;try refine ZF c ?_
   refine aJ (sh:=(fun v=>⟨[(0,.pt 1000000000 0 0),(2,.sl 1000000001 0 d.length),(4,.pt 4 0 0),(6,.i j),(7,.i a.1),(8,.i a1),(56,.b v)],[(4,.var (.agg [.i g,.lst .m 1 []])),(470000003,.arr 2 (a.2.2.2.2.map (aA .m))),(1000000000,.var (.agg [.lst .o 1 (a.2.1.map AV.z),.lst .o 4 (a.2.2.1.map (ai .o)),.i a.2.2.2.1,.sl 470000003 0 a.2.2.2.2.length])),(1000000001,.arr 1 (d.map AV.i))]⟩)) (s:=u1) ?_ ?_
   ·replace h:=v1;obtain⟨t,h⟩|⟨t,h⟩:=au h
    ·obtain⟨k2,w1,h⟩:=ae h;have f:=ZA c t;refine ZF f ?_;refine ZSG f (LX _ _ w1) ?_;cases h;exact ZL f trivial
    ·cases h;exact ZL (ZA c t) trivial
   ·simp only[ZC,wU];obtain⟨u,h⟩|⟨u,h⟩:=au h
    ·obtain⟨b1,y1,h⟩:=ae h;have f:=ZA c u;refine ZF f ?_;refine ZUG f (w_n _ y1) ?_;obtain⟨w,k,h⟩:=bj h;have z1:Row.arr 1 [(.i a.1:AV)]=Row.arr 1 (w.map AV.i):=by rw[<-k];rfl
     have c1:w.length=1:=by rw[<-k];rfl
     obtain⟨l2,a2,h⟩:=ae h;have d1:=be a2;obtain⟨g1,l,h⟩:=bj h;have b2:b1.map AV.i++w.map AV.i=g1.map AV.i:=by rw[<-l,List.map_append]
     have i1:b1.length+1=g1.length:=by simp[<-k,<-l]<;>omega
     rw[i1] at d1;obtain⟨j1,c2,h⟩:=ae h;have f:=ZA f (ZA z1 (ZA c1 (ZA d1 (ZA b2 i1))));refine ZF f ?_;refine ZUG f (w_n _ c2) ?_;obtain⟨x,p,h⟩:=bj h;have d2:Row.arr 1 [(.i a1:AV)]=Row.arr 1 (x.map AV.i):=by rw[<-p];rfl
     have k1:x.length=1:=by rw[<-p];rfl
     obtain⟨m2,g2,h⟩:=ae h;have l1:=be g2;obtain⟨m1,y,h⟩:=bj h;have i2:j1.map AV.i++x.map AV.i=m1.map AV.i:=by rw[<-y,List.map_append]
     have p1:j1.length+1=m1.length:=by simp[<-k,<-l,<-p,<-y]<;>omega
     rw[p1] at l1;obtain⟨p2,j2,h⟩:=ae h;have f:=ZA f (ZA d2 (ZA k1 (ZA l1 (ZA i2 p1))));refine ZF f ?_;refine ZWG f (w_cp N0 _ _ _ _ _ _ _ j2) [470000003,1000000000,1000000003] [477300003] ?_;cases h;exact ZL f (ZA e (ZA k.symm (ZA l.symm (ZA p.symm (ZA y.symm (ZA c1 k1))))))
    ·cases h;exact ZL (ZA c u) e
  ·cases h;exact ZL c e
theorem w_hs(b:Int)(d:List ByteArray)(g:List ay)(j:Int)(a:List Int){r:List ByteArray×List ay×Int×List ar×List Int}(h:Qz b d g j a=some r):OkM Tryz.prog 249 [.pt 1000000000 0 0,.agg [.i b,.lst .u 1 []],.sl 1000000001 0 a.length] [(1000000000,.var (.agg [.lst .o 1 (d.map AV.z),.lst .o 4 (g.map (ai .o)),.i j,.lst .u 2 []])),(1000000001,.arr 1 (a.map AV.i))] (.tup []) ([(470000003,.arr 2 (r.2.2.2.1.map (aA .m))),(1000000000,.var (.agg [.lst .o 1 (r.1.map AV.z),.lst .o 4 (r.2.1.map (ai .o)),.i r.2.2.1,.sl 470000003 0 r.2.2.2.1.length])),(1000000001,.arr 1 (r.2.2.2.2.map AV.i))]):=by
 refine bJ (lr:=[470000003,1000000000,1000000001]) aZ UW rfl rfl ?_;unfold Qz at h;simp only[ZC,NN,co];obtain⟨v,k,h⟩:=ae h;obtain⟨l,p,h⟩:=ae h;obtain⟨c,h⟩|⟨c,h⟩:=au h
 ·obtain⟨w,t,h⟩:=ae h;have f:=ZA (be k) (ZA p c);refine ZF f ?_;refine ZWG f (w_ii _ _ _ _ _ t) [49,1000000000,1000000001] [2400049] ?_;cases h;exact ZL f @co.eq_1
 ·obtain⟨x,q,h⟩:=ae h;try refine ZF (ZA (be k) (ZA p c)) ?_
  first|refine eE (bn (aF (w_as b a l) q ?_)) (fun τ s=>?_)|refine fV (aF (w_as b a l) q ?_) (fun τ s=>?_)
  ·exact ZK (ZA @OA.eq_1 @Bz.eq_1)
  ·cases h;refine kG s (by decide) ?_ rfl;exact ZK (ZA @co.eq_1 @Bz.eq_1)
theorem w_em(c:af)(d:Int)(k:Int){r:Bool×List ar}(h:FN c d k=some r):OkM Tryz.prog 235 [.agg [.lst .o 1 (((c).N).map AV.z),.lst .o 4 (((c).F).map (ai .o))],.i d,.i k] [] (.tup [.sl 6 0 r.2.length,.b r.1]) ([(6,.arr 2 (r.2.map (aA .m)))]):=by
 refine bJ (lr:=[6]) aZ WP rfl rfl ?_;unfold FN at h;simp only[ZC,NI,fQ];obtain⟨l,a,h⟩:=bj h;have p:Row.arr 1 [(.i d:AV)]=Row.arr 1 (l.map AV.i):=by rw[<-a];rfl
 have g:l.length=1:=by rw[<-a];rfl
 obtain⟨t,q,h⟩:=ae h;have f:=ZA p g;refine ZF f ?_;refine ZWG f (w_hs _ _ _ _ _ q) [470000003,1000000000,1000000001] [471900003] ?_;obtain⟨j,h⟩|⟨j,h⟩:=au h
 ·cases h;exact ZL (ZA f j) (ZA @fQ.eq_1 (ZA a.symm g))
 ·obtain⟨u,s,h⟩:=ae h;cases h;exact ZL (ZA f (ZA j (be s))) (ZA @fQ.eq_1 (ZA a.symm g))
theorem w_gc(c:af)(d:Int)(g:Int){r:Bool×List ar}(h:Ip c d g=some r):OkM Tryz.prog 212 [.agg [.lst .o 1 (((c).N).map AV.z),.lst .o 4 (((c).F).map (ai .o))],.i d,.i g] [] (.tup [.sl 6 0 r.2.length,.b r.1]) ([(6,.arr 2 (r.2.map (aA .m)))]):=by
 refine bJ (lr:=[6]) aZ Wx rfl rfl ?_;unfold Ip at h;simp only[ZC,Mw,fQ];obtain⟨l,j,h⟩:=ae h;refine ZF trivial ?_;refine ZSG trivial (w_ga _ _ _ j) ?_;obtain⟨a,h⟩|⟨a,h⟩:=au h
 ·cases h;exact ZL a @fQ.eq_1
 ·obtain⟨p,k,h⟩:=ae h;refine ZF a ?_;refine ZWG a (w_em _ _ _ k) [6] [1800006] ?_;cases h;exact ZL a @fQ.eq_1
def S_g(a:Int)(b:Int)(v:Int×List Int):St:=⟨[(0,.i a),(1,.i b),(5,.sl 5 0 v.2.length),(6,.i v.1)],[(5,.arr 1 (v.2.map AV.i))]⟩
def oD(v:List Int):St:=⟨[(5,.sl 5 0 v.length)],[(5,.arr 1 (v.map AV.i))]⟩
theorem w_g(d:Int)(g:Int)(b:Int×List Int)(o:(Int×List Int)⊕(List Int))(h:M_g d g b=some o):AWP (OkS Tryz.prog) yz (qL [0,1,5,6] [5] (S_g d g) (qX 0 [5] [5] (oD)) o) (S_g d g b):=by
 have e:=ZA @S_g.eq_1 @oD.eq_1;unfold M_g at h;simp only[ZC,S_g,yz];obtain⟨a,h⟩|⟨a,h⟩:=au h
 ·obtain⟨x,t,h⟩:=ae h;refine ZF a ?_;refine ZSG a (JK _ t) ?_;obtain⟨j,h⟩|⟨j,h⟩:=au h
  ·obtain⟨k,c,h⟩:=bj h;have u:Row.arr 1 [(.i b.1:AV)]=Row.arr 1 (k.map AV.i):=by rw[<-c];rfl
   have m:k.length=1:=by rw[<-c];rfl
   obtain⟨y,v,h⟩:=ae h;have p:=be v;obtain⟨q,l,h⟩:=bj h;have w:b.2.map AV.i++k.map AV.i=q.map AV.i:=by rw[<-l,List.map_append]
   have s:b.2.length+1=q.length:=by simp[<-c,<-l]<;>omega
   rw[s] at p;cases h;exact ZL (ZA a (ZA j (ZA u (ZA m (ZA p (ZA w s)))))) (ZA e (ZA c.symm (ZA l.symm m)))
  ·cases h;exact ZL (ZA a j) e
 ·cases h;exact ZL a e
theorem w_gd(a:Int)(b:Int){r:List Int}(h:LH a b=some r):Ok Tryz.prog 213 [.i a,.i b] (.lst .u 1 (r.map AV.i)):=by
 refine ax aZ m213 rfl ?_;unfold LH at h;simp only[ZC,A213,V85,aB];obtain⟨d,c,h⟩:=ae h;try refine ZF trivial ?_
 refine aJ (bn (aF (w_g a b) c ?_)) ?_
 ·exact ZK (ZA @S_g.eq_1 @oD.eq_1)
 ·simp only[ZC,oD,IR];cases h;exact ZL trivial @V85.eq_1
def LG(a:aq)(c:aj)(d:Bool×List ar)(v:Int):St:=⟨[(2,.pt 2 0 0),(3,.pt 3 0 0),(4,.pt 4 0 0),(7,.sl 7 0 d.2.length),(8,.b d.1),(9,.i v)],[(2,.var (.agg [.lst .o 1 (a.F.F.N.map AV.z),.lst .o 4 (a.F.F.F.map (ai .o)),.lst .o 5 (a.F.N.map (ah .o)),.lst .o 5 (a.N.map (ah .o)),.lst .o 1 (a.L.map AV.i)])),(3,.var (.agg [.i c.Id,.i c.F.N,.lst .o 1 (c.F.F.map AV.i),.i c.N.N,.i c.N.F])),(4,.var (.agg [.i 0,.i 0,.lst .u 1 [],.i 0,.i 0])),(7,.arr 2 (d.2.map (aA .m)))]⟩
def Bn(v:Unit):St:=⟨[(4,.pt 4 0 0)],[(4,.var (.agg [.i 0,.i 0,.lst .u 1 [],.i 0,.i 0]))]⟩
theorem w_ag(a:aq)(c:aj)(d:Bool×List ar)(g:Int)(o:Int⊕(Unit⊕(aj×Bool)))(h:De a c d g=some o):AWP (OkS Tryz.prog) yN (qL [2,3,4,7,8,9] [2,3,4,7] (LG a c d) (qS (qX 0 [4] [4] (Bn)) (qR kH (fun r=>.tup [.agg [.i r.1.Id,.i r.1.F.N,.lst .u 1 (r.1.F.F.map AV.i),.i r.1.N.N,.i r.1.N.F],.b r.2]))) o) (LG a c d g):=by
 have e:=ZA @LG.eq_1 @Bn.eq_1;unfold De at h;simp only[ZC,LG,yN];obtain⟨q,t,h⟩:=ae h;try refine ZF trivial ?_
 refine aJ (sh:=(fun v=>⟨[(2,.pt 2 0 0),(3,.pt 3 0 0),(4,.pt 4 0 0),(7,.sl 7 0 d.2.length),(8,.b d.1),(9,.i g),(52,.b v)],[(2,.var (.agg [.lst .o 1 (a.F.F.N.map AV.z),.lst .o 4 (a.F.F.F.map (ai .o)),.lst .o 5 (a.F.N.map (ah .o)),.lst .o 5 (a.N.map (ah .o)),.lst .o 1 (a.L.map AV.i)])),(3,.var (.agg [.i c.Id,.i c.F.N,.lst .o 1 (c.F.F.map AV.i),.i c.N.N,.i c.N.F])),(4,.var (.agg [.i 0,.i 0,.lst .u 1 [],.i 0,.i 0])),(7,.arr 2 (d.2.map (aA .m)))]⟩)) (s:=q) ?_ ?_
 ·replace h:=t;obtain⟨j,h⟩|⟨j,h⟩:=au h
  ·cases h;exact ZL j trivial
  ·cases h;exact ZL j trivial
 ·simp only[ZC,Ou];obtain⟨k,h⟩|⟨k,h⟩:=au h
  ·obtain⟨i1,w,h⟩:=ae h;obtain⟨j1,x,h⟩:=ae h;obtain⟨k1,y,h⟩:=ae h;have f:=ZA k (ZA (be w) x);refine ZF f ?_;refine ZSG f (Tb _ _ y) ?_;obtain⟨l,h⟩|⟨l,h⟩:=au h
   ·cases h;exact ZL (ZA f l) e
   ·obtain⟨l1,a1,h⟩:=ae h;have f:=ZA f l;refine ZF f ?_;refine ZSG f (w_di _ _ a1) ?_;obtain⟨m1,b1,h⟩:=ae h;refine ZF f ?_;refine ZUG f (w_gd _ _ b1) ?_;obtain⟨p,h⟩|⟨p,h⟩:=au h
    ·obtain⟨p1,c1,h⟩:=ae h;have f:=ZA f p;refine ZF f ?_;refine ZUG f (w_ds _ c1) ?_;obtain⟨q1,d1,h⟩:=ae h;obtain⟨s1,g1,h⟩:=ae h;cases h;exact ZL (ZA f (ZA (be d1) g1)) @kH.eq_1
    ·cases h;exact ZL (ZA f p) e
  ·cases h;exact ZL k e
theorem w_en(a:aq)(c:aj){r:aj×Bool}(h:DE a c=some r):Ok Tryz.prog 173 [.agg [.lst .o 1 (a.F.F.N.map AV.z),.lst .o 4 (a.F.F.F.map (ai .o)),.lst .o 5 (a.F.N.map (ah .o)),.lst .o 5 (a.N.map (ah .o)),.lst .o 1 (a.L.map AV.i)],.agg [.i c.Id,.i c.F.N,.lst .o 1 (c.F.F.map AV.i),.i c.N.N,.i c.N.F]] (.tup [.agg [.i r.1.Id,.i r.1.F.N,.lst .u 1 (r.1.F.F.map AV.i),.i r.1.N.N,.i r.1.N.F],.b r.2]):=by
 refine ax aZ m173 rfl ?_;unfold DE at h;simp only[ZC,A173,kH,aB];obtain⟨j,k,h⟩:=ae h;try refine ZF trivial ?_
 refine aJ (sh:=(fun v=>⟨[(2,.pt 2 0 0),(3,.pt 3 0 0),(4,.pt 4 0 0),(6,.pt 6 0 0),(31,.b v)],[(2,.var (.agg [.lst .o 1 (a.F.F.N.map AV.z),.lst .o 4 (a.F.F.F.map (ai .o)),.lst .o 5 (a.F.N.map (ah .o)),.lst .o 5 (a.N.map (ah .o)),.lst .o 1 (a.L.map AV.i)])),(3,.var (.agg [.i c.Id,.i c.F.N,.lst .o 1 (c.F.F.map AV.i),.i c.N.N,.i c.N.F])),(4,.var (.agg [.i 0,.i 0,.lst .u 1 [],.i 0,.i 0])),(6,.var (.agg [.lst .o 1 (a.F.F.N.map AV.z),.lst .o 4 (a.F.F.F.map (ai .o))]))]⟩)) (s:=j) ?_ ?_
 ·replace h:=k;obtain⟨c1,l,h⟩:=ae h;refine ZF trivial ?_;refine ZSG trivial (Tb _ _ l) ?_;obtain⟨g,h⟩|⟨g,h⟩:=au h
  ·obtain⟨d1,m,h⟩:=ae h;refine ZF g ?_;refine ZSG g (w_di _ _ m) ?_;obtain⟨g1,p,h⟩:=ae h;refine ZF g ?_;refine ZSG g (JK _ p) ?_;cases h;exact ZL g trivial
  ·cases h;exact ZL g trivial
 ·simp only[ZC,OD];obtain⟨d,h⟩|⟨d,h⟩:=au h
  ·obtain⟨i1,q,h⟩:=ae h;refine ZF d ?_;refine ZUG d (Sn _ q) ?_;cases h;exact ZL d @kH.eq_1
  ·obtain⟨j1,t,h⟩:=ae h;refine ZF d ?_;refine ZSG d (Ux _ _ t) ?_;obtain⟨w,x,h⟩:=ae h;refine ZF d ?_;refine ZWG d (w_gc _ _ _ x) [6] [4400006] ?_;obtain⟨y,a1,h⟩:=ae h;try refine ZF d ?_
   refine bl (o:=y) (br cz (aF (w_ag a c w) a1 ?_)) (fun k1 hv=>?_) (fun l1 hv e τ hne hq=>?_)
   ·exact ZK (ZA @LG.eq_1 @Bn.eq_1)
   ·subst hv;simp only[] at h;simp only[ZC,Bn,Ml];cases h;exact ZL d @kH.eq_1
   ·subst hv;simp only[] at h;obtain⟨rfl,b1⟩:=hq;cases h;exact b1
def um(c:Int)(d:Int)(g:Int)(j:Int)(k:List ByteArray)(l:List ay)(m:List aj)(b:List Int)(a:aK)(v:Int):St:=⟨[(3,.pt 3 0 0),(4,.pt 4 0 0),(5,.pt 5 0 0),(6,.i v)],[(3,.var (.agg [.i c,.i d,.sl 1000000003 0 b.length,.i g,.i j])),(4,.var (.agg [.lst .u 1 [],.lst .u 4 [],.lst .u 5 []])),(5,.var (.agg [.sl 8 0 a.F.N.length,.sl 1008 0 a.F.F.length,.sl 2008 0 a.N.length])),(8,.arr 1 (a.F.N.map AV.z)),(1008,.arr 4 (a.F.F.map (ai .u))),(2008,.arr 5 (a.N.map (ah .u))),(1000000000,.arr 1 (k.map AV.z)),(1000000001,.arr 4 (l.map (ai .u))),(1000000002,.arr 5 (m.map (ah .u))),(1000000003,.arr 1 (b.map AV.i))]⟩
theorem w_ar(a:Int)(d:Int)(g:Int)(i:Int)(j:List ByteArray)(k:List ay)(l:List aj)(m:List Int)(b:aK)(q:Int)(o:Int⊕Int)(h:Cr a b q=some o):AWP (OkS Tryz.prog) uj (qL [3,4,5,6] [3,4,5,8,1008,2008,1000000000,1000000001,1000000002,1000000003] (um a d g i j k l m b) (qX 0 [3,4,5,6] [3,4,5,8,1008,2008,1000000000,1000000001,1000000002,1000000003] (um a d g i j k l m b)) o) (um a d g i j k l m b q):=by
 have e:=ZA @um.eq_1 @um.eq_1;unfold Cr at h;simp only[ZC,um,uj];obtain⟨c,h⟩|⟨c,h⟩:=au h
 ·obtain⟨u,s,h⟩:=ae h;obtain⟨v,t,h⟩:=ae h;obtain⟨p,h⟩|⟨p,h⟩:=au h
  ·cases h;exact ZL (ZA c (ZA (be s) (ZA t p))) e
  ·cases h;exact ZL (ZA c (ZA (be s) (ZA t p))) e
 ·cases h;exact ZL c e
theorem w_ge(t:Int)(v:Int)(w:Int)(x:Int)(k:List ByteArray)(l:List ay)(p:List aj)(q:List Int){r:List ByteArray×List aj×List ay×List ByteArray×List ay×List aj×List Int}(h:JX t v w x k l p q=some r):OkM Tryz.prog 90 [.agg [.sl 1000000000 0 k.length,.sl 1000000001 0 l.length,.sl 1000000002 0 p.length],.agg [.i t,.i v,.sl 1000000003 0 q.length,.i w,.i x]] [(1000000000,.arr 1 (k.map AV.z)),(1000000001,.arr 4 (l.map (ai .u))),(1000000002,.arr 5 (p.map (ah .u))),(1000000003,.arr 1 (q.map AV.i))] (.agg [.sl 8 0 r.1.length,.sl 1008 0 r.2.2.1.length,.sl 41 0 r.2.1.length]) ([(8,.arr 1 (r.1.map AV.z)),(41,.arr 5 (r.2.1.map (ah .m))),(1008,.arr 4 (r.2.2.1.map (ai .u))),(1000000000,.arr 1 (r.2.2.2.1.map AV.z)),(1000000001,.arr 4 (r.2.2.2.2.1.map (ai .u))),(1000000002,.arr 5 (r.2.2.2.2.2.1.map (ah .u))),(1000000003,.arr 1 (r.2.2.2.2.2.2.map AV.i))]):=by
 refine bJ (lr:=[8,41,1008,1000000000,1000000001,1000000002,1000000003]) aZ XB rfl rfl ?_;unfold JX at h;simp only[ZC,TG,td];obtain⟨s,l1,h⟩:=ae h;refine ZF trivial ?_;refine ZUG trivial (w_dh _ l1) ?_;obtain⟨y,m1,h⟩:=ae h;try refine ZF trivial ?_
 refine aJ (bn (aF (w_ar t v w x k l p q s) m1 ?_)) ?_
 ·exact ZK (ZA @um.eq_1 @um.eq_1)
 ·simp only[ZC,um,BE];obtain⟨i2,p1,h⟩:=ae h;obtain⟨b,q1,h⟩:=bj h;have s1:sub (s.N.map (ah .u)) 0 (Int.toNat y)=b.map (ah .u):=by rw[de,q1]
  obtain⟨j2,t1,h⟩:=ae h;obtain⟨c,u1,h⟩:=ae h;have f:=ZA (be p1) (ZA s1 (be t1));refine ZF f ?_;refine ZUG f (Sn _ u1) ?_;obtain⟨d,a,h⟩:=bj h;have v1:Row.arr 5 [(.agg [.i c.Id,.i c.F.N,.lst .u 1 (c.F.F.map AV.i),.i c.N.N,.i c.N.F]:AV)]=Row.arr 5 (d.map (ah .u)):=by rw[<-a];rfl
  have c1:d.length=1:=by rw[<-a];rfl
  obtain⟨k2,w1,h⟩:=ae h;have d1:=be w1;obtain⟨g,j,h⟩:=bj h;have y1:b.map (ah .m)++d.map (ah .m)=g.map (ah .m):=by rw[<-j,List.map_append]
  have g1:b.length+1=g.length:=by simp[<-a,<-j]<;>omega
  rw[g1] at d1;obtain⟨l2,z1,h⟩:=ae h;obtain⟨a1,a2,h⟩:=bj h;have b2:sub (s.N.map (ah .u)) (Int.toNat y) (s.N.length-(Int.toNat y))=a1.map (ah .u):=by rw[de,a2]
  have c2:sub (b.map (ah .m)++d.map (ah .u)) 0 g.length=b.map (ah .m)++d.map (ah .u):=if_pos ⟨rfl,by simp[<-a,<-j]⟩;obtain⟨m2,d2,h⟩:=ae h;have i1:=be d2;obtain⟨j1,b1,h⟩:=bj h;have g2:g.map (ah .m)++a1.map (ah .m)=j1.map (ah .m):=by rw[<-b1,List.map_append]
  have k1:g.length+a1.length=j1.length:=by simp[<-a,<-j,<-b1]<;>omega
  rw[k1] at i1;cases h;exact ZL (ZA f (ZA v1 (ZA c1 (ZA d1 (ZA y1 (ZA g1 (ZA (be z1) (ZA b2 (ZA c2 (ZA i1 (ZA g2 k1))))))))))) (ZA @td.eq_1 (ZA a.symm (ZA j.symm (ZA b1.symm c1))))
theorem w_gf(l:Int)(a:List ByteArray)(c:List ay)(d:List aj)(g:List aj)(j:List Int){r:Bool×List ByteArray×List ay×List aj×List aj×List Int×List ByteArray×List ay×List aj×List aj×List Int}(h:Gg l a c d g j=some r):OkM Tryz.prog 117 [.agg [.sl 1000000000 0 a.length,.sl 1000000001 0 c.length,.sl 1000000002 0 d.length,.sl 1000000003 0 g.length,.sl 1000000004 0 j.length],.i l] [(1000000000,.arr 1 (a.map AV.z)),(1000000001,.arr 4 (c.map (ai .u))),(1000000002,.arr 5 (d.map (ah .m))),(1000000003,.arr 5 (g.map (ah .u))),(1000000004,.arr 1 (j.map AV.i))] (.tup [.agg [.sl 500000256 0 r.2.1.length,.sl 500000257 0 r.2.2.1.length,.sl 500000258 0 r.2.2.2.1.length,.sl 500000259 0 r.2.2.2.2.1.length,.sl 500000260 0 r.2.2.2.2.2.1.length],.b r.1]) ([(500000256,.arr 1 (r.2.1.map AV.z)),(500000257,.arr 4 (r.2.2.1.map (ai .u))),(500000258,.arr 5 (r.2.2.2.1.map (ah .m))),(500000259,.arr 5 (r.2.2.2.2.1.map (ah .u))),(500000260,.arr 1 (r.2.2.2.2.2.1.map AV.i)),(1000000000,.arr 1 (r.2.2.2.2.2.2.1.map AV.z)),(1000000001,.arr 4 (r.2.2.2.2.2.2.2.1.map (ai .u))),(1000000002,.arr 5 (r.2.2.2.2.2.2.2.2.1.map (ah .m))),(1000000003,.arr 5 (r.2.2.2.2.2.2.2.2.2.1.map (ah .u))),(1000000004,.arr 1 (r.2.2.2.2.2.2.2.2.2.2.map AV.i))]):=by
 refine bJ (lr:=[500000256,500000257,500000258,500000259,500000260,1000000000,1000000001,1000000002,1000000003,1000000004]) aZ Uu rfl rfl ?_;unfold Gg at h;simp only[ZC,Iw,kH];obtain⟨w,p,h⟩:=ae h;obtain⟨x,q,h⟩:=ae h;obtain⟨y,s,h⟩:=ae h;have f:=ZA (be p) q;refine ZF f ?_;refine ZUG f (w_en _ _ s) ?_;obtain⟨a1,t,h⟩:=ae h;refine ZF f ?_;refine ZUG f (w_cu _ t) ?_;obtain⟨k,h⟩|⟨k,h⟩:=au h
 ·obtain⟨b1,v,h⟩:=ae h;have f:=ZA f k;refine ZF f ?_;refine ZWG f (w_ge _ _ _ _ _ _ _ _ v) [8,41,1008,1000000000,1000000001,1000000002,1000000003] [2600008,2600041,2601008] ?_;cases h;exact ZL f @kH.eq_1
 ·cases h;exact ZL (ZA f k) @kH.eq_1
def S_x(a:List ByteArray)(b:List ay)(c:List aj)(d:List aj)(g:List Int)(j:List Int)(v:Int×List Int×List ByteArray×List ay×List aj×List aj×List Int):St:=⟨[(1,.pt 1 0 0),(2,.pt 2 0 0),(4,.pt 4 0 0),(5,.sl 5 0 v.2.1.length),(6,.sl 6 0 j.length),(7,.i v.1)],[(1,.var (.agg [.sl 1000000000 0 a.length,.sl 1000000001 0 b.length,.sl 1000000002 0 c.length,.sl 1000000003 0 d.length,.sl 1000000004 0 g.length])),(2,.var (.agg [.lst .u 1 [],.lst .u 4 [],.lst .u 5 [],.lst .u 5 [],.lst .u 1 []])),(4,.var (.agg [.sl 500000256 0 v.2.2.1.length,.sl 500000257 0 v.2.2.2.1.length,.sl 500000258 0 v.2.2.2.2.1.length,.sl 500000259 0 v.2.2.2.2.2.1.length,.sl 500000260 0 v.2.2.2.2.2.2.length])),(5,.arr 1 (v.2.1.map AV.i)),(6,.arr 1 (j.map AV.i)),(500000256,.arr 1 (v.2.2.1.map AV.z)),(500000257,.arr 4 (v.2.2.2.1.map (ai .u))),(500000258,.arr 5 (v.2.2.2.2.1.map (ah .m))),(500000259,.arr 5 (v.2.2.2.2.2.1.map (ah .u))),(500000260,.arr 1 (v.2.2.2.2.2.2.map AV.i)),(1000000000,.arr 1 (a.map AV.z)),(1000000001,.arr 4 (b.map (ai .u))),(1000000002,.arr 5 (c.map (ah .u))),(1000000003,.arr 5 (d.map (ah .u))),(1000000004,.arr 1 (g.map AV.i))]⟩
def RZ(a:List ByteArray)(b:List ay)(c:List aj)(d:List aj)(g:List Int)(v:List Int×List ByteArray×List ay×List aj×List aj×List Int):St:=⟨[(2,.pt 2 0 0),(4,.pt 4 0 0),(5,.sl 5 0 v.1.length)],[(2,.var (.agg [.lst .u 1 [],.lst .u 4 [],.lst .u 5 [],.lst .u 5 [],.lst .u 1 []])),(4,.var (.agg [.sl 500000256 0 v.2.1.length,.sl 500000257 0 v.2.2.1.length,.sl 500000258 0 v.2.2.2.1.length,.sl 500000259 0 v.2.2.2.2.1.length,.sl 500000260 0 v.2.2.2.2.2.length])),(5,.arr 1 (v.1.map AV.i)),(500000256,.arr 1 (v.2.1.map AV.z)),(500000257,.arr 4 (v.2.2.1.map (ai .u))),(500000258,.arr 5 (v.2.2.2.1.map (ah .m))),(500000259,.arr 5 (v.2.2.2.2.1.map (ah .u))),(500000260,.arr 1 (v.2.2.2.2.2.map AV.i)),(1000000000,.arr 1 (a.map AV.z)),(1000000001,.arr 4 (b.map (ai .u))),(1000000002,.arr 5 (c.map (ah .u))),(1000000003,.arr 5 (d.map (ah .u))),(1000000004,.arr 1 (g.map AV.i))]⟩
theorem w_x(d:List ByteArray)(g:List ay)(j:List aj)(a:List aj)(k:List Int)(l:List Int)(b:Int×List Int×List ByteArray×List ay×List aj×List aj×List Int)(o:(Int×List Int×List ByteArray×List ay×List aj×List aj×List Int)⊕(List Int×List ByteArray×List ay×List aj×List aj×List Int))(h:M_x a l b=some o):AWP (OkS Tryz.prog) pz (qL [1,2,4,5,6,7] [1,2,4,5,6,500000256,500000257,500000258,500000259,500000260,1000000000,1000000001,1000000002,1000000003,1000000004] (S_x d g j a k l) (qX 0 [2,4,5] [2,4,5,500000256,500000257,500000258,500000259,500000260,1000000000,1000000001,1000000002,1000000003,1000000004] (RZ d g j a k)) o) (S_x d g j a k l b):=by
 have e:=ZA @S_x.eq_1 @RZ.eq_1;unfold M_x at h;simp only[ZC,S_x,pz];obtain⟨m,h⟩|⟨m,h⟩:=au h
 ·obtain⟨j1,x,h⟩:=ae h;obtain⟨k1,y,h⟩:=ae h;obtain⟨l1,z,h⟩:=ae h;have f:=ZA m (ZA (be x) y);refine ZF f ?_;refine ZWG f (w_gf _ _ _ _ _ _ z) [500000256,500000257,500000258,500000259,500000260,1000000000,1000000001,1000000002,1000000003,1000000004] [502800256,502800257,502800258,502800259,502800260] ?_;obtain⟨p,h⟩|⟨p,h⟩:=au h
  ·obtain⟨m1,a1,h⟩:=ae h;obtain⟨b1,c1,h⟩:=ae h;obtain⟨q,c,h⟩:=bj h;have d1:Row.arr 1 [(.i b1.Id:AV)]=Row.arr 1 (q.map AV.i):=by rw[<-c];rfl
   have t:q.length=1:=by rw[<-c];rfl
   obtain⟨p1,g1,h⟩:=ae h;have u:=be g1;obtain⟨v,s,h⟩:=bj h;have i1:b.2.1.map AV.i++q.map AV.i=v.map AV.i:=by rw[<-s,List.map_append]
   have w:b.2.1.length+1=v.length:=by simp[<-c,<-s]<;>omega
   rw[w] at u;cases h;exact ZL (ZA f (ZA p (ZA (be a1) (ZA c1 (ZA d1 (ZA t (ZA u (ZA i1 w)))))))) (ZA e (ZA c.symm (ZA s.symm t)))
  ·cases h;exact ZL (ZA f p) e
 ·cases h;exact ZL m e
theorem w_ht(a:List ByteArray)(b:List ay)(c:List aj)(d:List aj)(g:List Int){r:List Int×List ByteArray×List ay×List aj×List aj×List Int×List ByteArray×List ay×List aj×List aj×List Int}(h:Sy a b c d g=some r):OkM Tryz.prog 119 [.agg [.sl 1000000000 0 a.length,.sl 1000000001 0 b.length,.sl 1000000002 0 c.length,.sl 1000000003 0 d.length,.sl 1000000004 0 g.length]] [(1000000000,.arr 1 (a.map AV.z)),(1000000001,.arr 4 (b.map (ai .u))),(1000000002,.arr 5 (c.map (ah .u))),(1000000003,.arr 5 (d.map (ah .u))),(1000000004,.arr 1 (g.map AV.i))] (.tup [.agg [.sl 500000128 0 r.2.1.length,.sl 500000129 0 r.2.2.1.length,.sl 500000130 0 r.2.2.2.1.length,.sl 500000131 0 r.2.2.2.2.1.length,.sl 500000132 0 r.2.2.2.2.2.1.length],.sl 3 0 r.1.length]) ([(3,.arr 1 (r.1.map AV.i)),(500000128,.arr 1 (r.2.1.map AV.z)),(500000129,.arr 4 (r.2.2.1.map (ai .u))),(500000130,.arr 5 (r.2.2.2.1.map (ah .m))),(500000131,.arr 5 (r.2.2.2.2.1.map (ah .u))),(500000132,.arr 1 (r.2.2.2.2.2.1.map AV.i)),(1000000000,.arr 1 (r.2.2.2.2.2.2.1.map AV.z)),(1000000001,.arr 4 (r.2.2.2.2.2.2.2.1.map (ai .u))),(1000000002,.arr 5 (r.2.2.2.2.2.2.2.2.1.map (ah .u))),(1000000003,.arr 5 (r.2.2.2.2.2.2.2.2.2.1.map (ah .u))),(1000000004,.arr 1 (r.2.2.2.2.2.2.2.2.2.2.map AV.i))]):=by
 refine bJ (lr:=[3,500000128,500000129,500000130,500000131,500000132,1000000000,1000000001,1000000002,1000000003,1000000004]) aZ Ur rfl rfl ?_;unfold Sy at h;simp only[ZC,KR,xy];obtain⟨q,j,h⟩:=ae h;refine ZF trivial ?_;refine ZUG trivial (w_cu _ j) ?_;obtain⟨k,l,h⟩:=ae h;refine ZF trivial ?_;refine ZUG trivial (w_el _ l) ?_;obtain⟨s,p,h⟩:=ae h;try refine ZF trivial ?_
 refine aJ (bn (aF (w_x a b c d g k) p ?_)) ?_
 ·exact ZK (ZA @S_x.eq_1 @RZ.eq_1)
 ·simp only[ZC,RZ,vH];cases h;exact ZL trivial @xy.eq_1
theorem w_gg(c:List ByteArray)(d:List ay)(g:List aj)(j:List aj)(k:List Int){r:Bool×List Int×List ByteArray×List ay×List aj×List aj×List Int×List ByteArray×List ay×List aj×List aj×List Int}(h:MW c d g j k=some r):OkM Tryz.prog 51 [.agg [.sl 1000000000 0 c.length,.sl 1000000001 0 d.length,.sl 1000000002 0 g.length,.sl 1000000003 0 j.length,.sl 1000000004 0 k.length]] [(1000000000,.arr 1 (c.map AV.z)),(1000000001,.arr 4 (d.map (ai .u))),(1000000002,.arr 5 (g.map (ah .u))),(1000000003,.arr 5 (j.map (ah .u))),(1000000004,.arr 1 (k.map AV.i))] (.tup [.agg [.sl 500000128 0 r.2.2.1.length,.sl 500000129 0 r.2.2.2.1.length,.sl 500000130 0 r.2.2.2.2.1.length,.sl 500000131 0 r.2.2.2.2.2.1.length,.sl 500000132 0 r.2.2.2.2.2.2.1.length],.sl 3 0 r.2.1.length,.b r.1]) ([(3,.arr 1 (r.2.1.map AV.i)),(500000128,.arr 1 (r.2.2.1.map AV.z)),(500000129,.arr 4 (r.2.2.2.1.map (ai .u))),(500000130,.arr 5 (r.2.2.2.2.1.map (ah .m))),(500000131,.arr 5 (r.2.2.2.2.2.1.map (ah .u))),(500000132,.arr 1 (r.2.2.2.2.2.2.1.map AV.i)),(1000000000,.arr 1 (r.2.2.2.2.2.2.2.1.map AV.z)),(1000000001,.arr 4 (r.2.2.2.2.2.2.2.2.1.map (ai .u))),(1000000002,.arr 5 (r.2.2.2.2.2.2.2.2.2.1.map (ah .u))),(1000000003,.arr 5 (r.2.2.2.2.2.2.2.2.2.2.1.map (ah .u))),(1000000004,.arr 1 (r.2.2.2.2.2.2.2.2.2.2.2.map AV.i))]):=by
 refine bJ (lr:=[3,500000128,500000129,500000130,500000131,500000132,1000000000,1000000001,1000000002,1000000003,1000000004]) aZ XK rfl rfl ?_;unfold MW at h;simp only[ZC,Ty,oa];obtain⟨q,l,h⟩:=ae h;refine ZF trivial ?_;refine ZSG trivial (w_ek _ l) ?_;obtain⟨a,h⟩|⟨a,h⟩:=au h
 ·cases h;exact ZL a @oa.eq_1
 ·obtain⟨s,p,h⟩:=ae h;refine ZF a ?_;refine ZWG a (w_ht _ _ _ _ _ p) [3,500000128,500000129,500000130,500000131,500000132,1000000000,1000000001,1000000002,1000000003,1000000004] [1500003,501500128,501500129,501500130,501500131,501500132] ?_;cases h;exact ZL a @oa.eq_1
theorem w_i(c:Int)(d:Int)(g:Int){r:Bool}(h:M_i c d g=some r):Ok Tryz.prog 132 [.i c,.i d,.i g] (.b r):=by
 refine ax aZ m132 rfl ?_;unfold M_i at h;simp only[ZC,A132,eJ,aB];obtain⟨a,h⟩|⟨a,h⟩:=au h
 ·cases h;exact ZL a @eJ.eq_1
 ·cases h;exact ZL a @eJ.eq_1
def Ky(a:ByteArray)(v:Int):St:=⟨[(0,.z a),(7,.i (a.size:Int)),(8,.i v)],[]⟩
def Bw(a:ByteArray)(v:Unit):St:=⟨[(0,.z a)],[]⟩
theorem w_ah(c:ByteArray)(j:Int)(o:Int⊕(Unit⊕Bool))(h:EG c j=some o):AWP (OkS Tryz.prog) zL (qL [0,7,8] [] (Ky c) (qS (qX 0 [0] [] (Bw c)) (qR V91 (fun r=>.b r))) o) (Ky c j):=by
 have e:=ZA @Ky.eq_1 @Bw.eq_1;unfold EG at h;simp only[ZC,Ky,zL];obtain⟨a,h⟩|⟨a,h⟩:=au h
 ·obtain⟨t,u,h⟩:=ae h;try refine ZF a ?_
  refine aJ (sh:=(fun v=>⟨[(0,.z c),(3,.i j),(4,.b v.1),(5,.b v.2),(7,.i (c.size:Int)),(8,.i j)],[]⟩)) (s:=t) ?_ ?_
  ·replace h:=u;obtain⟨w,k,h⟩:=ae h;obtain⟨d,h⟩|⟨d,h⟩:=au h
   ·obtain⟨m,h⟩|⟨m,h⟩:=au h
    ·cases h;exact ZL (ZA a (ZA (ko k) (ZA d m))) trivial
    ·cases h;exact ZL (ZA a (ZA (ko k) (ZA d m))) trivial
   ·obtain⟨p,h⟩|⟨p,h⟩:=au h
    ·cases h;exact ZL (ZA a (ZA (ko k) (ZA d p))) trivial
    ·cases h;exact ZL (ZA a (ZA (ko k) (ZA d p))) trivial
  ·simp only[ZC,KE];obtain⟨g,h⟩|⟨g,h⟩:=au h
   ·obtain⟨l,h⟩|⟨l,h⟩:=au h
    ·cases h;exact ZL (ZA a (ZA g l)) @V91.eq_1
    ·obtain⟨q,h⟩|⟨q,h⟩:=au h
     ·cases h;exact ZL (ZA a (ZA g (ZA l q))) @V91.eq_1
     ·cases h;exact ZL (ZA a (ZA g (ZA l q))) e
   ·cases h;exact ZL (ZA a g) e
 ·cases h;exact ZL a e
theorem w_gh(a:ByteArray){r:Bool}(h:LM a=some r):Ok Tryz.prog 180 [.z a] (.b r):=by
 refine ax aZ m180 rfl ?_;unfold LM at h;simp only[ZC,A180,V91,aB];obtain⟨c,d,h⟩:=ae h;try refine ZF trivial ?_
 refine bl (o:=c) (br cz (aF (w_ah a) d ?_)) (fun j hv=>?_) (fun k hv e τ hne hq=>?_)
 ·exact ZK (ZA @Ky.eq_1 @Bw.eq_1)
 ·subst hv;simp only[] at h;simp only[ZC,Bw,HI];obtain⟨l,g,h⟩:=ae h;refine ZF trivial ?_;refine ZSG trivial (w_i _ _ _ g) ?_;cases h;exact ZL trivial @V91.eq_1
 ·subst hv;simp only[] at h;obtain⟨rfl,i⟩:=hq;cases h;exact i
def OB(a:List ByteArray)(b:ByteArray)(v:Int):St:=⟨[(0,.lst .o 1 (a.map AV.z)),(1,.z b),(7,.i (a.length:Int)),(8,.i v)],[]⟩
theorem w_bw(b:List ByteArray)(c:ByteArray)(g:Int)(o:Int⊕(Unit⊕Int))(h:Dv b c g=some o):AWP (OkS Tryz.prog) zd (qL [0,1,7,8] [] (OB b c) (qS (qX 0 [] [] (bP)) (qR V85 (fun r=>.i r))) o) (OB b c g):=by
 have e:=ZA @OB.eq_1 @bP.eq_1;unfold Dv at h;simp only[ZC,OB,zd];obtain⟨a,h⟩|⟨a,h⟩:=au h
 ·obtain⟨k,j,h⟩:=ae h;obtain⟨d,h⟩|⟨d,h⟩:=au h
  ·cases h;exact ZL (ZA a (ZA (aO j) d)) @V85.eq_1
  ·cases h;exact ZL (ZA a (ZA (aO j) d)) e
 ·cases h;exact ZL a e
theorem w_hu(a:List ByteArray)(b:ByteArray){r:Int}(h:Pz a b=some r):Ok Tryz.prog 221 [.lst .o 1 (a.map AV.z),.z b] (.i r):=by
 refine ax aZ m221 rfl ?_;unfold Pz at h;simp only[ZC,A221,V85,aB];obtain⟨c,d,h⟩:=ae h;try refine ZF trivial ?_
 refine bl (o:=c) (br cz (aF (w_bw a b) d ?_)) (fun j hv=>?_) (fun k hv e τ hne hq=>?_)
 ·exact ZK (ZA @OB.eq_1 @bP.eq_1)
 ·subst hv;simp only[] at h;simp only[ZC,bP,He];cases h;exact ZL trivial @V85.eq_1
 ·subst hv;simp only[] at h;obtain⟨rfl,g⟩:=hq;cases h;exact g
theorem w_gi(a:List ByteArray)(c:ByteArray){r:Bool}(h:Iz a c=some r):Ok Tryz.prog 181 [.lst .o 1 (a.map AV.z),.z c] (.b r):=by
 refine ax aZ m181 rfl ?_;unfold Iz at h;simp only[ZC,A181,V85,aB];obtain⟨g,d,h⟩:=ae h;refine ZF trivial ?_;refine ZSG trivial (w_hu _ _ d) ?_;cases h;exact ZL trivial @V85.eq_1
theorem RB(a:Int){r:Bool}(h:wS a=some r):Ok Tryz.prog 233 [.i a] (.b r):=by
 refine ax aZ m233 rfl ?_;unfold wS at h;simp only[ZC,A233,V91,aB];cases h;exact ZL trivial @V91.eq_1
theorem w_s(j:Int)(k:Int){r:Int}(h:M_s j k=some r):Ok Tryz.prog 223 [.i j,.i k] (.i r):=by
 have e:=@V85.eq_1;refine ax aZ m223 rfl ?_;unfold M_s at h;simp only[ZC,A223,V85,aB];obtain⟨p,l,h⟩:=ae h;refine ZF trivial ?_;refine ZSG trivial (RB _ l) ?_;obtain⟨q,m,h⟩:=ae h;refine ZF trivial ?_;refine ZSG trivial (RB _ m) ?_;obtain⟨a,h⟩|⟨a,h⟩:=au h
 ·obtain⟨d,h⟩|⟨d,h⟩:=au h
  ·cases h;exact ZL (ZA a d) e
  ·cases h;exact ZL (ZA a d) e
 ·obtain⟨b,h⟩|⟨b,h⟩:=au h
  ·cases h;exact ZL (ZA a b) e
  ·obtain⟨c,h⟩|⟨c,h⟩:=au h
   ·cases h;exact ZL (ZA a (ZA b c)) e
   ·obtain⟨g,h⟩|⟨g,h⟩:=au h
    ·cases h;exact ZL (ZA a (ZA b (ZA c g))) e
    ·cases h;exact ZL (ZA a (ZA b (ZA c g))) e
def S_o(a:List Int)(v:Int):St:=⟨[(3,.i 0),(6,.lst .o 1 (a.map AV.i)),(7,.i (a.length:Int)),(8,.i v)],[]⟩
def PJ(v:Unit):St:=⟨[(3,.i 0)],[]⟩
theorem w_o(b:List Int)(d:Int)(o:Int⊕(Unit⊕Int))(h:M_o b d=some o):AWP (OkS Tryz.prog) xR (qL [3,6,7,8] [] (S_o b) (qS (qX 0 [3] [] (PJ)) (qR V91 (fun r=>.i r))) o) (S_o b d):=by
 have e:=ZA @S_o.eq_1 @PJ.eq_1;unfold M_o at h;simp only[ZC,S_o,xR];obtain⟨a,h⟩|⟨a,h⟩:=au h
 ·obtain⟨j,g,h⟩:=ae h;obtain⟨c,h⟩|⟨c,h⟩:=au h
  ·cases h;exact ZL (ZA a (ZA (aO g) c)) @V91.eq_1
  ·cases h;exact ZL (ZA a (ZA (aO g) c)) e
 ·cases h;exact ZL a e
theorem w_dj(a:List Int){r:Int}(h:yk a=some r):Ok Tryz.prog 222 [.lst .o 1 (a.map AV.i)] (.i r):=by
 refine ax aZ m222 rfl ?_;unfold yk at h;simp only[ZC,A222,V91,aB];obtain⟨b,c,h⟩:=ae h;try refine ZF trivial ?_
 refine bl (o:=b) (br cz (aF (w_o a) c ?_)) (fun g hv=>?_) (fun j hv e τ hne hq=>?_)
 ·exact ZK (ZA @S_o.eq_1 @PJ.eq_1)
 ·subst hv;simp only[] at h;simp only[ZC,PJ,Mb];cases h;exact ZL trivial @V91.eq_1
 ·subst hv;simp only[] at h;obtain⟨rfl,d⟩:=hq;cases h;exact d
theorem w_gj(a:ay)(b:ay){r:Int}(h:Lg a b=some r):Ok Tryz.prog 182 [.agg [.i a.A,.i a.B,.i a.F,.i a.N],.agg [.i b.A,.i b.B,.i b.F,.i b.N]] (.i r):=by
 refine ax aZ m182 rfl ?_;unfold Lg at h;simp only[ZC,A182,V85,aB];obtain⟨j,k,h⟩:=ae h;refine ZF trivial ?_;refine ZSG trivial (w_s _ _ k) ?_;obtain⟨l,m,h⟩:=ae h;refine ZF trivial ?_;refine ZSG trivial (w_s _ _ m) ?_;obtain⟨p,q,h⟩:=ae h;refine ZF trivial ?_;refine ZSG trivial (w_s _ _ q) ?_;obtain⟨s,t,h⟩:=ae h;refine ZF trivial ?_;refine ZSG trivial (w_s _ _ t) ?_;obtain⟨c,d,h⟩:=bj h;have u:Row.arr 1 [(.i j:AV),(.i l:AV),(.i p:AV),(.i s:AV)]=Row.arr 1 (c.map AV.i):=by rw[<-d];rfl
 have g:c.length=4:=by rw[<-d];rfl
 have v:sub (c.map AV.i) 0 4=c.map AV.i:=sx _ (by simp[<-d]);obtain⟨x,w,h⟩:=ae h;have f:=ZA u (ZA g v);refine ZF f ?_;refine ZSG f (w_dj _ w) ?_;cases h;exact ZL f (ZA @V85.eq_1 (ZA d.symm g))
def FA(a:af)(v:Int):St:=⟨[(1,.pt 1 0 0),(8,.lst .o 1 (a.N.map AV.z)),(9,.i (a.N.length:Int)),(10,.i v)],[(1,.var (.agg [.lst .o 1 (a.N.map AV.z),.lst .o 4 (a.F.map (ai .o))]))]⟩
theorem w_be(a:af)(i:Int)(o:Int⊕(Unit⊕Bool))(h:FL a i=some o):AWP (OkS Tryz.prog) xt (qL [1,8,9,10] [1] (FA a) (qS (qX 0 [1] [1] (mB a)) (qR V91 (fun r=>.b r))) o) (FA a i):=by
 unfold FL at h;simp only[ZC,FA,xt];obtain⟨c,h⟩|⟨c,h⟩:=au h
 ·obtain⟨v,j,h⟩:=ae h;obtain⟨w,k,h⟩:=ae h;have f:=ZA c (aO j);refine ZF f ?_;refine ZSG f (w_gh _ k) ?_;obtain⟨d,h⟩|⟨d,h⟩:=au h
  ·cases h;exact ZL (ZA f d) @V91.eq_1
  ·obtain⟨x,l,h⟩:=ae h;obtain⟨m,p,q,s,t⟩:=GM AV.z l;obtain⟨y,u,h⟩:=ae h;have f:=ZA f (ZA d (ZA m (ZA p (ZA q (ZA s t)))));refine ZF f ?_;refine ZSG f (w_gi _ _ u) ?_;obtain⟨g,h⟩|⟨g,h⟩:=au h
   ·cases h;exact ZL (ZA f g) @V91.eq_1
   ·cases h;exact ZL (ZA f g) (ZA @FA.eq_1 @mB.eq_1)
 ·cases h;exact ZL c (ZA @FA.eq_1 @mB.eq_1)
def xE(a:af)(v:Int):St:=⟨[(1,.pt 1 0 0),(28,.lst .o 4 (a.F.map (ai .o))),(29,.i (a.F.length:Int)),(30,.i v)],[(1,.var (.agg [.lst .o 1 (a.N.map AV.z),.lst .o 4 (a.F.map (ai .o))]))]⟩
theorem w_aw(d:af)(q:Int)(o:Int⊕(Unit⊕Bool))(h:Cq d q=some o):AWP (OkS Tryz.prog) xI (qL [1,28,29,30] [1] (xE d) (qS (qX 2 [1] [1] (mB d)) (qR V91 (fun r=>.b r))) o) (xE d q):=by
 have e:=@V91.eq_1;unfold Cq at h;simp only[ZC,xE,xI];obtain⟨a,h⟩|⟨a,h⟩:=au h
 ·obtain⟨w,g,h⟩:=ae h;obtain⟨c,h⟩|⟨c,h⟩:=au h
  ·cases h;exact ZL (ZA a (ZA (aO g) c)) e
  ·obtain⟨i,h⟩|⟨i,h⟩:=au h
   ·cases h;exact ZL (ZA a (ZA (aO g) (ZA c i))) e
   ·obtain⟨k,h⟩|⟨k,h⟩:=au h
    ·cases h;exact ZL (ZA a (ZA (aO g) (ZA c (ZA i k)))) e
    ·obtain⟨x,s,h⟩:=ae h;have f:=ZA a (ZA (aO g) (ZA c (ZA i k)));refine ZF f ?_;refine ZSG f (w_i _ _ _ s) ?_;obtain⟨l,h⟩|⟨l,h⟩:=au h
     ·cases h;exact ZL (ZA f l) e
     ·obtain⟨y,t,h⟩:=ae h;have f:=ZA f l;refine ZF f ?_;refine ZSG f (w_i _ _ _ t) ?_;obtain⟨j,h⟩|⟨j,h⟩:=au h
      ·cases h;exact ZL (ZA f j) e
      ·obtain⟨m,h⟩|⟨m,h⟩:=au h
       ·obtain⟨z,u,h⟩:=ae h;obtain⟨a1,v,h⟩:=ae h;have f:=ZA f (ZA j (ZA m (aO u)));refine ZF f ?_;refine ZSG f (w_gj _ _ v) ?_;obtain⟨p,h⟩|⟨p,h⟩:=au h
        ·cases h;exact ZL (ZA f p) e
        ·cases h;exact ZL (ZA f p) (ZA @xE.eq_1 @mB.eq_1)
       ·cases h;exact ZL (ZA f (ZA j m)) (ZA @xE.eq_1 @mB.eq_1)
 ·cases h;exact ZL a (ZA @xE.eq_1 @mB.eq_1)
theorem w_dv(a:af){r:Bool}(h:EC a=some r):Ok Tryz.prog 128 [.agg [.lst .o 1 (a.N.map AV.z),.lst .o 4 (a.F.map (ai .o))]] (.b r):=by
 refine ax aZ m128 rfl ?_;unfold EC at h;simp only[ZC,A128,V91,aB];obtain⟨d,g,h⟩:=ae h;try refine ZF trivial ?_
 refine bl (o:=d) (br cz (aF (w_be a) g ?_)) (fun p hv=>?_) (fun q hv e τ hne hq=>?_)
 ·exact ZK (ZA @FA.eq_1 @mB.eq_1)
 ·subst hv;simp only[] at h;simp only[ZC,mB,Ov];obtain⟨i,j,h⟩:=ae h;try refine ZF trivial ?_
  refine bl (o:=i) (br cz (aF (w_aw a) j ?_)) (fun s hv=>?_) (fun t hv e τ hne hq=>?_)
  ·exact ZK (ZA @xE.eq_1 @mB.eq_1)
  ·subst hv;simp only[] at h;simp only[ZC,mB,KX];obtain⟨u,k,h⟩:=ae h;refine ZF trivial ?_;refine ZSG trivial (w_i _ _ _ k) ?_;obtain⟨c,h⟩|⟨c,h⟩:=au h
   ·cases h;exact ZL c @V91.eq_1
   ·cases h;exact ZL c @V91.eq_1
  ·subst hv;simp only[] at h;obtain⟨rfl,l⟩:=hq;cases h;exact l
 ·subst hv;simp only[] at h;obtain⟨rfl,m⟩:=hq;cases h;exact m
theorem WB(a:ay)(d:Int){r:Int}(h:xZ a d=some r):Ok Tryz.prog 185 [.agg [.i a.A,.i a.B,.i a.F,.i a.N],.i d] (.i r):=by
 refine ax aZ m185 rfl ?_;unfold xZ at h;simp only[ZC,A185,V85,aB];obtain⟨b,h⟩|⟨b,h⟩:=au h
 ·cases h;exact ZL b @V85.eq_1
 ·obtain⟨c,h⟩|⟨c,h⟩:=au h
  ·cases h;exact ZL (ZA b c) @V85.eq_1
  ·cases h;exact ZL (ZA b c) @V85.eq_1
def Lb(a:List Int)(b:Int)(v:Int):St:=⟨[(0,.lst .o 1 (a.map AV.i)),(1,.i b),(7,.i (a.length:Int)),(8,.i v)],[]⟩
theorem w_bx(b:List Int)(c:Int)(g:Int)(o:Int⊕(Unit⊕Int))(h:Dq b c g=some o):AWP (OkS Tryz.prog) zG (qL [0,1,7,8] [] (Lb b c) (qS (qX 0 [] [] (bP)) (qR V85 (fun r=>.i r))) o) (Lb b c g):=by
 have e:=ZA @Lb.eq_1 @bP.eq_1;unfold Dq at h;simp only[ZC,Lb,zG];obtain⟨a,h⟩|⟨a,h⟩:=au h
 ·obtain⟨k,j,h⟩:=ae h;obtain⟨d,h⟩|⟨d,h⟩:=au h
  ·cases h;exact ZL (ZA a (ZA (aO j) d)) @V85.eq_1
  ·cases h;exact ZL (ZA a (ZA (aO j) d)) e
 ·cases h;exact ZL a e
theorem w_hv(a:List Int)(b:Int){r:Int}(h:Sq a b=some r):Ok Tryz.prog 146 [.lst .o 1 (a.map AV.i),.i b] (.i r):=by
 refine ax aZ m146 rfl ?_;unfold Sq at h;simp only[ZC,A146,V85,aB];obtain⟨c,d,h⟩:=ae h;try refine ZF trivial ?_
 refine bl (o:=c) (br cz (aF (w_bx a b) d ?_)) (fun j hv=>?_) (fun k hv e τ hne hq=>?_)
 ·exact ZK (ZA @Lb.eq_1 @bP.eq_1)
 ·subst hv;simp only[] at h;simp only[ZC,bP,Nb];cases h;exact ZL trivial @V85.eq_1
 ·subst hv;simp only[] at h;obtain⟨rfl,g⟩:=hq;cases h;exact g
end Vs

