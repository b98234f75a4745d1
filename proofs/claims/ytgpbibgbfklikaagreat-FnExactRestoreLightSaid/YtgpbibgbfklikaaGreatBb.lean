/-
  Part of the proof that the law FnExactRestoreLight returns true at every input; no condition beside the row's own.
-/
import Derived.Test.YtgpbibgbfklikaaGreatBa
set_option linter.defProp false
set_option linter.unusedSimpArgs false
set_option linter.unusedVariables false
set_option maxHeartbeats 1000000
set_option maxRecDepth 8000
namespace Vs
open Go Go.Proofs
attribute [local irreducible] AWP dF eff tJ gi callM
theorem VT1:(∀(f:Fl)(x:ay),ah f x=.agg [.i x.A,.i x.B,.i x.Length,.i x.Risk])/\
 (∀(f:Fl)(x:af),aV f x=.agg [.lst f 1 (x.Nodes.map AV.z),.lst f 4 (x.Fibers.map (ah f))])/\
 (∀(f:Fl)(x:ar),aA f x=.agg [.i x.Start,.lst f 1 (x.Fibers.map AV.i)])/\
 (∀(f:Fl)(x:bc),bd f x=.agg [.i x.First,.i x.Count])/\
 (∀(f:Fl)(x:aq),ai f x=.agg [.i x.Id,.i x.Route.Start,.lst f 1 (x.Route.Fibers.map AV.i),.i x.Block.First,.i x.Block.Count])/\
 (∀(f:Fl)(x:aK),bv f x=.agg [.lst f 1 (x.Network.Nodes.map AV.z),.lst f 4 (x.Network.Fibers.map (ah f)),.lst f 5 (x.Lights.map (ai f))])/\
 (∀(f:Fl)(x:aj),aH f x=.agg [.lst f 1 (x.Plan.Network.Nodes.map AV.z),.lst f 4 (x.Plan.Network.Fibers.map (ah f)),.lst f 5 (x.Plan.Lights.map (ai f)),.lst f 5 (x.Home.map (ai f)),.lst f 1 (x.Down.map AV.i)])/\
 (∀(f:Fl)(x:bK),aR f x=.agg [.lst f 1 (x.n.Nodes.map AV.z),.lst f 4 (x.n.Fibers.map (ah f)),.i x.toF,.lst f 2 (x.list.map (aA f))])/\
 (∀(x:Value)(f:Nat)(cs:List AV),setPart (.sc x) 0 (.fn f cs)=some (.fn f cs)):=⟨fun _ _=>rfl,fun _ _=>rfl,fun _ _=>rfl,fun _ _=>rfl,fun _ _=>rfl,fun _ _=>rfl,fun _ _=>rfl,fun _ _=>rfl,fun _ _ _=>rfl⟩
theorem pC(f:Fl)(x:ar)(v:Value)(w:World)(S:Nat->Prop)(B:Nat)(fp:List Nat)(h:aZ w S B v (aA f x) fp)(hk:v.cells.size=2):shK 2 v:=El h hk
theorem VT2:(∀(f:Fl)(x:ay),(ah f x).nrm=ah .o x)/\
 (∀(f:Fl)(xs:List ay),(xs.map (ah f)).map AV.nrm=xs.map (ah .o))/\
 (∀(f:Fl)(x:ay),(ah f x).als=ah f.als x)/\
 (∀(f:Fl)(xs:List ay),(xs.map (ah f)).map AV.als=xs.map (ah f.als))/\
 (∀(f:Fl),AV.als∘ah f=ah f.als)/\
 (∀(f:Fl)(x:ay),(ah f x).fix=ah f.fix x)/\
 (∀(f:Fl)(xs:List ay),(xs.map (ah f)).map AV.fix=xs.map (ah f.fix))/\
 (∀(f:Fl)(x:af),(aV f x).nrm=aV .o x)/\
 (∀(f:Fl)(xs:List af),(xs.map (aV f)).map AV.nrm=xs.map (aV .o))/\
 (∀(f:Fl)(x:af),(aV f x).als=aV f.als x)/\
 (∀(f:Fl)(xs:List af),(xs.map (aV f)).map AV.als=xs.map (aV f.als))/\
 (∀(f:Fl),AV.als∘aV f=aV f.als)/\
 (∀(f:Fl)(x:af),(aV f x).fix=aV f.fix x)/\
 (∀(f:Fl)(xs:List af),(xs.map (aV f)).map AV.fix=xs.map (aV f.fix))/\
 (∀(f:Fl)(x:ar),(aA f x).nrm=aA .o x)/\
 (∀(f:Fl)(xs:List ar),(xs.map (aA f)).map AV.nrm=xs.map (aA .o))/\
 (∀(f:Fl)(x:ar),(aA f x).als=aA f.als x)/\
 (∀(f:Fl)(xs:List ar),(xs.map (aA f)).map AV.als=xs.map (aA f.als))/\
 (∀(f:Fl),AV.als∘aA f=aA f.als)/\
 (∀(f:Fl)(x:ar),(aA f x).fix=aA f.fix x)/\
 (∀(f:Fl)(xs:List ar),(xs.map (aA f)).map AV.fix=xs.map (aA f.fix))/\
 (∀(f:Fl)(x:bc),(bd f x).nrm=bd .o x)/\
 (∀(f:Fl)(xs:List bc),(xs.map (bd f)).map AV.nrm=xs.map (bd .o))/\
 (∀(f:Fl)(x:bc),(bd f x).als=bd f.als x)/\
 (∀(f:Fl)(xs:List bc),(xs.map (bd f)).map AV.als=xs.map (bd f.als))/\
 (∀(f:Fl),AV.als∘bd f=bd f.als)/\
 (∀(f:Fl)(x:bc),(bd f x).fix=bd f.fix x)/\
 (∀(f:Fl)(xs:List bc),(xs.map (bd f)).map AV.fix=xs.map (bd f.fix))/\
 (∀(f:Fl)(x:aq),(ai f x).nrm=ai .o x)/\
 (∀(f:Fl)(xs:List aq),(xs.map (ai f)).map AV.nrm=xs.map (ai .o))/\
 (∀(f:Fl)(x:aq),(ai f x).als=ai f.als x)/\
 (∀(f:Fl)(xs:List aq),(xs.map (ai f)).map AV.als=xs.map (ai f.als))/\
 (∀(f:Fl),AV.als∘ai f=ai f.als)/\
 (∀(f:Fl)(x:aq),(ai f x).fix=ai f.fix x)/\
 (∀(f:Fl)(xs:List aq),(xs.map (ai f)).map AV.fix=xs.map (ai f.fix))/\
 (∀(f:Fl)(x:aK),(bv f x).nrm=bv .o x)/\
 (∀(f:Fl)(xs:List aK),(xs.map (bv f)).map AV.nrm=xs.map (bv .o))/\
 (∀(f:Fl)(x:aK),(bv f x).als=bv f.als x)/\
 (∀(f:Fl)(xs:List aK),(xs.map (bv f)).map AV.als=xs.map (bv f.als))/\
 (∀(f:Fl),AV.als∘bv f=bv f.als)/\
 (∀(f:Fl)(x:aK),(bv f x).fix=bv f.fix x)/\
 (∀(f:Fl)(xs:List aK),(xs.map (bv f)).map AV.fix=xs.map (bv f.fix))/\
 (∀(f:Fl)(x:aj),(aH f x).nrm=aH .o x)/\
 (∀(f:Fl)(xs:List aj),(xs.map (aH f)).map AV.nrm=xs.map (aH .o))/\
 (∀(f:Fl)(x:aj),(aH f x).als=aH f.als x)/\
 (∀(f:Fl)(xs:List aj),(xs.map (aH f)).map AV.als=xs.map (aH f.als))/\
 (∀(f:Fl),AV.als∘aH f=aH f.als)/\
 (∀(f:Fl)(x:aj),(aH f x).fix=aH f.fix x)/\
 (∀(f:Fl)(xs:List aj),(xs.map (aH f)).map AV.fix=xs.map (aH f.fix))/\
 (∀(f:Fl)(x:bK),(aR f x).nrm=aR .o x)/\
 (∀(f:Fl)(xs:List bK),(xs.map (aR f)).map AV.nrm=xs.map (aR .o))/\
 (∀(f:Fl)(x:bK),(aR f x).als=aR f.als x)/\
 (∀(f:Fl)(xs:List bK),(xs.map (aR f)).map AV.als=xs.map (aR f.als))/\
 (∀(f:Fl),AV.als∘aR f=aR f.als)/\
 (∀(f:Fl)(x:bK),(aR f x).fix=aR f.fix x)/\
 (∀(f:Fl)(xs:List bK),(xs.map (aR f)).map AV.fix=xs.map (aR f.fix)):=
 ⟨@eH,@rY,@dN,@sd,@rC,@dV,@lR,@jO,@oC,@gT,@oL,@oO,@gX,@jH,@gC,@si,@gr,@sn,@rV,@gu,@lW,@ni,@rZ,@jr,@rS,@rG,@jd,@lY,@gm,@sa,@fH,@rU,@se,@fB,@lS,@ov,@tt,@jX,@tW,@tP,@kv,@nq,@gL,@lC,@eV,@lK,@lE,@fg,@gk,@jG,@nF,@ge,@nM,@nO,@gg,@iQ⟩
theorem VF1:(∀(f:Fl)(x:ay),(ah f x).fix=ah f.fix x)/\
 (∀(f:Fl)(xs:List ay),(xs.map (ah f)).map AV.fix=xs.map (ah f.fix))/\
 (∀(f:Fl)(x:af),(aV f x).fix=aV f.fix x)/\
 (∀(f:Fl)(xs:List af),(xs.map (aV f)).map AV.fix=xs.map (aV f.fix))/\
 (∀(f:Fl)(x:ar),(aA f x).fix=aA f.fix x)/\
 (∀(f:Fl)(xs:List ar),(xs.map (aA f)).map AV.fix=xs.map (aA f.fix))/\
 (∀(f:Fl)(x:bc),(bd f x).fix=bd f.fix x)/\
 (∀(f:Fl)(xs:List bc),(xs.map (bd f)).map AV.fix=xs.map (bd f.fix))/\
 (∀(f:Fl)(x:aq),(ai f x).fix=ai f.fix x)/\
 (∀(f:Fl)(xs:List aq),(xs.map (ai f)).map AV.fix=xs.map (ai f.fix))/\
 (∀(f:Fl)(x:aK),(bv f x).fix=bv f.fix x)/\
 (∀(f:Fl)(xs:List aK),(xs.map (bv f)).map AV.fix=xs.map (bv f.fix))/\
 (∀(f:Fl)(x:aj),(aH f x).fix=aH f.fix x)/\
 (∀(f:Fl)(xs:List aj),(xs.map (aH f)).map AV.fix=xs.map (aH f.fix))/\
 (∀(f:Fl)(x:bK),(aR f x).fix=aR f.fix x)/\
 (∀(f:Fl)(xs:List bK),(xs.map (aR f)).map AV.fix=xs.map (aR f.fix)):=
 ⟨@dV,@lR,@gX,@jH,@gu,@lW,@jd,@lY,@fB,@lS,@kv,@nq,@fg,@gk,@gg,@iQ⟩
theorem VZ1:(∀(x:ay),(ah .o x).fz=true)/\
 (∀(xs:List ay),fzL (xs.map (ah .o))=true)/\
 (∀(x:ay),(ah .u x).ouB=true)/\
 (∀(xs:List ay),dC (xs.map (ah .u))=true)/\
 (∀(x:af),(aV .o x).fz=true)/\
 (∀(xs:List af),fzL (xs.map (aV .o))=true)/\
 (∀(x:af),(aV .u x).ouB=true)/\
 (∀(xs:List af),dC (xs.map (aV .u))=true)/\
 (∀(x:ar),(aA .o x).fz=true)/\
 (∀(xs:List ar),fzL (xs.map (aA .o))=true)/\
 (∀(x:ar),(aA .u x).ouB=true)/\
 (∀(xs:List ar),dC (xs.map (aA .u))=true)/\
 (∀(x:bc),(bd .o x).fz=true)/\
 (∀(xs:List bc),fzL (xs.map (bd .o))=true)/\
 (∀(x:bc),(bd .u x).ouB=true)/\
 (∀(xs:List bc),dC (xs.map (bd .u))=true)/\
 (∀(x:aq),(ai .o x).fz=true)/\
 (∀(xs:List aq),fzL (xs.map (ai .o))=true)/\
 (∀(x:aq),(ai .u x).ouB=true)/\
 (∀(xs:List aq),dC (xs.map (ai .u))=true)/\
 (∀(x:aK),(bv .o x).fz=true)/\
 (∀(xs:List aK),fzL (xs.map (bv .o))=true)/\
 (∀(x:aK),(bv .u x).ouB=true)/\
 (∀(xs:List aK),dC (xs.map (bv .u))=true)/\
 (∀(x:aj),(aH .o x).fz=true)/\
 (∀(xs:List aj),fzL (xs.map (aH .o))=true)/\
 (∀(x:aj),(aH .u x).ouB=true)/\
 (∀(xs:List aj),dC (xs.map (aH .u))=true)/\
 (∀(x:bK),(aR .o x).fz=true)/\
 (∀(xs:List bK),fzL (xs.map (aR .o))=true)/\
 (∀(x:bK),(aR .u x).ouB=true)/\
 (∀(xs:List bK),dC (xs.map (aR .u))=true):=
 ⟨@nZ,@cY,@oo,@cX,@lT,@pP,@lQ,@qw,@od,@jl,@nS,@jg,@oy,@tv,@ob,@tH,@og,@fC,@oi,@fA,@pi,@wD,@pM,@uT,@il,@mb,@ij,@mg,@kG,@oM,@jW,@oz⟩
theorem VE1:ah .o=ah .u/\ah .m=ah .u/\ah .s=ah .u/\bd .o=bd .u/\bd .m=bd .u/\bd .s=bd .u:=⟨rfl,rfl,rfl,rfl,rfl,rfl⟩
theorem Zr{α:Type}(n:Nat)(a:α):(List.replicate n a).length=n:=List.length_replicate
theorem ZA{A B:Prop}(a:A)(b:B):A/\B:=⟨a,b⟩
theorem ZF{A:Prop}(a:A){P Q:Prop}(k:Q)(e:A->P=Q:=by intro a;simp only[VS1,VS2,VS3,VS4,VS5,VS6,VT1,VT2,bw,bx,decide_true,decide_false,List.nodup_nil,List.nodup_cons,cP,cO,cQ,ne_eq,not_false_eq_true,Int.reduceEq,Int.reduceNe,true_and,false_and,Nat.reduceSub,Nat.reduceMul,↓reduceIte,reduceCtorEq,Nat.reduceEqDiff,Nat.reduceAdd,Nat.reduceLeDiff,Int.reduceLE,a];exact Eq.refl _):P:=(e a).mpr k
theorem ZG{P Q:Prop}(k:Q)(e:P=Q:=by simp only[VA,VF1,↓reduceIte,Nat.reduceEqDiff,Nat.reduceAdd,Nat.reduceMul,Nat.reduceSub,Nat.reduceLeDiff];exact Eq.refl _):P:=e.mpr k
theorem ZL{A:Prop}(a:A){B:Prop}(b:B){P:Prop}(e:A->B->P:=by intro a b;(try simp only[VS1,VS2,VS3,VS4,VS5,VS6,VT1,VT2,bw,bx,decide_true,decide_false,List.nodup_nil,List.nodup_cons,cP,cO,cQ,ne_eq,not_false_eq_true,Int.reduceEq,Int.reduceNe,true_and,false_and,Nat.reduceSub,Nat.reduceMul,↓reduceIte,reduceCtorEq,Nat.reduceEqDiff,Nat.reduceAdd,Nat.reduceLeDiff,Int.reduceLE,a]);all_goals first|(simp[qL,qJ,qJ0,qS,qX,qR,qM,Shp,sub,gO,bw,bx,VS1,VS2,VS3,VS4,VS5,VS6,VT1,VT2,b];done)|simp[qL,qJ,qJ0,qS,qX,qR,qM,Shp,sub,gO,bw,bx,VS1,VS2,VS3,VS4,VS5,VS6,VT1,VT2,VE1,b]):P:=e a b
theorem ZK{B:Prop}(b:B){P:Prop}(e:B->P:=by intro b;simp[qL,qJ,qJ0,qS,qX,qR,qM,Shp,sub,gO,bw,bx,VS1,VS2,VS3,VS4,VS5,VS6,VT1,VT2,b]):P:=e b
theorem ZS{A:Prop}(a:A){W:Prop}(w:W){ok:Oks}{ρ:Nat->Option Row}{d f:Nat}{args:List AV}{K:AV->List (Nat×Row)->Prop}{v:Value}(hk:K (.sc v) [])
 (e:A->W->ok.p f (args.map (snp ρ 4)) (.sc v):=by intro a w;simp only[VS1,VS2,VS3,VS4,VS5,VS6,VT1,VT2,bw,bx,decide_true,decide_false,List.nodup_nil,List.nodup_cons,cP,cO,cQ,ne_eq,not_false_eq_true,Int.reduceEq,Int.reduceNe,true_and,false_and,Nat.reduceSub,Nat.reduceMul,↓reduceIte,reduceCtorEq,Nat.reduceEqDiff,Nat.reduceAdd,Nat.reduceLeDiff,Int.reduceLE,a];exact w):gi ok ρ d f args K:=Ml (e a w) hk
theorem ZU{A:Prop}(a:A){W:Prop}(w:W){ok:Oks}{ρ:Nat->Option Row}{d f:Nat}{args:List AV}{K:AV->List (Nat×Row)->Prop}{res:AV}(hk:K (adopt 4 d res).1 (adopt 4 d res).2.1)
 (e:A->W->ok.p f (args.map (snp ρ 4)) res:=by intro a w;simp only[VS1,VS2,VS3,VS4,VS5,VS6,VT1,VT2,bw,bx,decide_true,decide_false,List.nodup_nil,List.nodup_cons,cP,cO,cQ,ne_eq,not_false_eq_true,Int.reduceEq,Int.reduceNe,true_and,false_and,Nat.reduceSub,Nat.reduceMul,↓reduceIte,reduceCtorEq,Nat.reduceEqDiff,Nat.reduceAdd,Nat.reduceLeDiff,Int.reduceLE,a];exact w) (hu:res.allU:=by simp[AV.allU,ke,tc,VT1,VT2]) (hn:∀p∈(adopt 4 d res).2.1,ρ p.1=none/\p.1<1000000000:=by simp only[VS1,VS2,VS3,VS4,VS5,VS6,VT1,VT2,bw,bx,decide_true,decide_false,List.nodup_nil,List.nodup_cons,cP,cO,cQ,ne_eq,not_false_eq_true,Int.reduceEq,Int.reduceNe,true_and,false_and,Nat.reduceSub,Nat.reduceMul,↓reduceIte,reduceCtorEq,Nat.reduceEqDiff,Nat.reduceAdd,Nat.reduceLeDiff,Int.reduceLE,Nat.reduceLT]):gi ok ρ d f args K:=Nb (e a w) hu hn hk
theorem ZQ{P:Prop}(e:P:=by simp[VS1,VS2,VS3,VS4,VS5,VS6,VT1,VT2]):P:=e
theorem ZW{A:Prop}(a:A){W:Prop}(w:W){ok:Oks}{ρ:Nat->Option Row}{d f:Nat}{args:List AV}{rs:List Nat}{K:AV->List (Nat×Row)->Prop}{res:AV}{outs:List (Nat×Row)}
 (e:A->W->ok.m f (args.map (AV.rg (cnm rs))) (rs.map (ig ρ rs)) res outs:=by intro a w;simp only[VS1,VS2,VS3,VS4,VS5,VS6,VT1,VT2,bw,bx,decide_true,decide_false,List.nodup_nil,List.nodup_cons,cP,cO,cQ,ne_eq,not_false_eq_true,Int.reduceEq,Int.reduceNe,true_and,false_and,Nat.reduceSub,Nat.reduceMul,↓reduceIte,reduceCtorEq,Nat.reduceEqDiff,Nat.reduceAdd,Nat.reduceLeDiff,Int.reduceLE,a];first|exact w|(simp only[VS1,VS2,VS3,VS4,VS5,VS6,VT1,VT2,bw,bx,decide_true,decide_false,List.nodup_nil,List.nodup_cons,cP,cO,cQ,ne_eq,not_false_eq_true,Int.reduceEq,Int.reduceNe,true_and,false_and,Nat.reduceSub,Nat.reduceMul,↓reduceIte,reduceCtorEq,Nat.reduceEqDiff,Nat.reduceAdd,Nat.reduceLeDiff,Int.reduceLE,a] at w;exact w))
 (h1:rs.Nodup/\(∀r∈rs,cA (ρ r))/\(∀r∈rs,∀q∈ny (ρ r),q∈rs)/\(∀r∈aM args,r∈rs):=by simp[VS1,VS2,VS3,VS4,VS5,VS6,VT1,VT2])
 (h2:(outs.map fun p=>bkn d rs p.1).Nodup/\(∀p∈outs,1000000000<=p.1->p.1-1000000000<rs.length)/\(∀p∈outs,p.1<1000000000->ρ (bkn d rs p.1)=none/\bkn d rs p.1<1000000000))
 (hk:K (res.rg (bkn d rs)) (bW rs++outs.map (de d rs))):callM ok ρ d f args rs K:=jv (e a w) h1 h2 hk
def S_b(a:List ByteArray)(v:Int×Int):St:=⟨[(0,.lst .o 1 (a.map AV.z)),(1,.i v.1),(5,.i v.2)],[]⟩
def gb(v:Int):St:=⟨[(1,.i v)],[]⟩
def NmK(ns ks:List Nat)(P:Prop):Prop:=P
theorem nmK{ns ks:List Nat}{P:Prop}(p:P):NmK ns ks P:=p
theorem ZSG{A:Prop}(a:A){W:Prop}(w:W){ok:Oks}{ρ:Nat->Option Row}{d f:Nat}{args:List AV}{K:AV->List (Nat×Row)->Prop}{v:Value}{Q:Prop}(k:Q)
 (e:A->W->ok.p f (args.map (snp ρ 4)) (.sc v):=by intro a w;simp only[VS1,VS2,VS3,VS4,VS5,VS6,VT1,VT2,bw,bx,decide_true,decide_false,List.nodup_nil,List.nodup_cons,cP,cO,cQ,ne_eq,not_false_eq_true,Int.reduceEq,Int.reduceNe,true_and,false_and,Nat.reduceSub,Nat.reduceMul,↓reduceIte,reduceCtorEq,Nat.reduceEqDiff,Nat.reduceAdd,Nat.reduceLeDiff,Int.reduceLE,a];exact w) (g:K (.sc v) []=Q:=by simp only[VA,VF1,↓reduceIte,Nat.reduceEqDiff,Nat.reduceAdd,Nat.reduceMul,Nat.reduceSub,Nat.reduceLeDiff];exact Eq.refl _):gi ok ρ d f args K:=Ml (e a w) (g.mpr k)
theorem ZUG{A:Prop}(a:A){W:Prop}(w:W){ok:Oks}{ρ:Nat->Option Row}{d f:Nat}{args:List AV}{K:AV->List (Nat×Row)->Prop}{res:AV}{Q:Prop}(k:Q)
 (e:A->W->ok.p f (args.map (snp ρ 4)) res:=by intro a w;simp only[VS1,VS2,VS3,VS4,VS5,VS6,VT1,VT2,bw,bx,decide_true,decide_false,List.nodup_nil,List.nodup_cons,cP,cO,cQ,ne_eq,not_false_eq_true,Int.reduceEq,Int.reduceNe,true_and,false_and,Nat.reduceSub,Nat.reduceMul,↓reduceIte,reduceCtorEq,Nat.reduceEqDiff,Nat.reduceAdd,Nat.reduceLeDiff,Int.reduceLE,a];exact w) (hu:res.allU:=by simp[AV.allU,ke,tc,VT1,VT2]) (hn:∀p∈(adopt 4 d res).2.1,ρ p.1=none/\p.1<1000000000:=by simp only[VS1,VS2,VS3,VS4,VS5,VS6,VT1,VT2,bw,bx,decide_true,decide_false,List.nodup_nil,List.nodup_cons,cP,cO,cQ,ne_eq,not_false_eq_true,Int.reduceEq,Int.reduceNe,true_and,false_and,Nat.reduceSub,Nat.reduceMul,↓reduceIte,reduceCtorEq,Nat.reduceEqDiff,Nat.reduceAdd,Nat.reduceLeDiff,Int.reduceLE,Nat.reduceLT]) (g:K (adopt 4 d res).1 (adopt 4 d res).2.1=Q:=by simp only[VA,VF1,↓reduceIte,Nat.reduceEqDiff,Nat.reduceAdd,Nat.reduceMul,Nat.reduceSub,Nat.reduceLeDiff];exact Eq.refl _):gi ok ρ d f args K:=Nb (e a w) hu hn (g.mpr k)
theorem NM1{ρ:Nat->Option Row}{d:Nat}{rs:List Nat}{outs:List (Nat×Row)}{ns ks:List Nat}(hn:outs.map (·.1)=ns)(h:UD rs ns=true):
 NmK ns ks ((outs.map fun p=>bkn d rs p.1).Nodup/\(∀p∈outs,1000000000<=p.1->p.1-1000000000<rs.length)/\(∀p∈outs,p.1<1000000000->ρ (bkn d rs p.1)=none/\bkn d rs p.1<1000000000)):=re ns hn h
theorem NM2{ρ:Nat->Option Row}{d:Nat}{rs:List Nat}{outs:List (Nat×Row)}{ns ks:List Nat}(hn:outs.map (·.1)=ns)(h:MN d rs ns ks=true)(hk:∀q∈ks,ρ q=none):
 NmK ns ks ((outs.map fun p=>bkn d rs p.1).Nodup/\(∀p∈outs,1000000000<=p.1->p.1-1000000000<rs.length)/\(∀p∈outs,p.1<1000000000->ρ (bkn d rs p.1)=none/\bkn d rs p.1<1000000000)):=mq ns ks hn h hk
theorem ZWG{A:Prop}(a:A){W:Prop}(w:W)(ns ks:List Nat){Q:Prop}(k:Q){ok:Oks}{ρ:Nat->Option Row}{d f:Nat}{args:List AV}{rs:List Nat}{K:AV->List (Nat×Row)->Prop}{res:AV}{outs:List (Nat×Row)}
 (e:A->W->ok.m f (args.map (AV.rg (cnm rs))) (rs.map (ig ρ rs)) res outs:=by intro a w;simp only[VS1,VS2,VS3,VS4,VS5,VS6,VT1,VT2,bw,bx,decide_true,decide_false,List.nodup_nil,List.nodup_cons,cP,cO,cQ,ne_eq,not_false_eq_true,Int.reduceEq,Int.reduceNe,true_and,false_and,Nat.reduceSub,Nat.reduceMul,↓reduceIte,reduceCtorEq,Nat.reduceEqDiff,Nat.reduceAdd,Nat.reduceLeDiff,Int.reduceLE,a];first|exact w|(simp only[VS1,VS2,VS3,VS4,VS5,VS6,VT1,VT2,bw,bx,decide_true,decide_false,List.nodup_nil,List.nodup_cons,cP,cO,cQ,ne_eq,not_false_eq_true,Int.reduceEq,Int.reduceNe,true_and,false_and,Nat.reduceSub,Nat.reduceMul,↓reduceIte,reduceCtorEq,Nat.reduceEqDiff,Nat.reduceAdd,Nat.reduceLeDiff,Int.reduceLE,a] at w;exact w))
 (h1:rs.Nodup/\(∀r∈rs,cA (ρ r))/\(∀r∈rs,∀q∈ny (ρ r),q∈rs)/\(∀r∈aM args,r∈rs):=by simp[VS1,VS2,VS3,VS4,VS5,VS6,VT1,VT2])
 (h2:NmK ns ks ((outs.map fun p=>bkn d rs p.1).Nodup/\(∀p∈outs,1000000000<=p.1->p.1-1000000000<rs.length)/\(∀p∈outs,p.1<1000000000->ρ (bkn d rs p.1)=none/\bkn d rs p.1<1000000000)):=by first|exact NM1 rfl (by decide+kernel)|exact NM2 rfl (by decide+kernel) ZQ|exact nmK ZQ)
 (g:K (res.rg (bkn d rs)) (bW rs++outs.map (de d rs))=Q:=by simp only[VA,VF1,↓reduceIte,Nat.reduceEqDiff,Nat.reduceAdd,Nat.reduceMul,Nat.reduceSub,Nat.reduceLeDiff];exact Eq.refl _):callM ok ρ d f args rs K:=jv (e a w) h1 h2 (g.mpr k)
theorem w_b(b:List ByteArray)(d:Int×Int)(o:(Int×Int)⊕(Int⊕Int))(h:M_b b d=some o):AWP (OkS Tryz.prog) GG (qL [0,1,5] [] (S_b b) (qS (qX 0 [1] [] (gb)) (qR V85 (fun r=>.i r))) o) (S_b b d):=by
 have e:=ZA @S_b.eq_1 @gb.eq_1;unfold M_b at h;simp only[ZC,S_b,GG];obtain⟨a,h⟩|⟨a,h⟩:=au h
 ·obtain⟨j,g,h⟩:=ae h;obtain⟨c,h⟩|⟨c,h⟩:=au h
  ·cases h;exact ZL (ZA a (ZA (aP g) c)) @V85.eq_1
  ·cases h;exact ZL (ZA a (ZA (aP g) c)) e
 ·cases h;exact ZL a e
theorem w_gd(b:List ByteArray)(c:Int){r:Int}(h:KD b c=some r):Ok Tryz.prog 85 [.lst .o 1 (b.map AV.z),.i c] (.i r):=by
 refine ax aY m85 rfl ?_;unfold KD at h;simp only[ZC,A85,V85,aB];obtain⟨a,h⟩|⟨a,h⟩:=au h
 ·cases h;exact ZL a @V85.eq_1
 ·obtain⟨d,g,h⟩:=ae h;try refine ZF a ?_
  refine bj (o:=d) (bq cy (aG (w_b b) g ?_)) (fun k hv=>?_) (fun l hv e τ hne hq=>?_)
  ·exact ZK (ZA @S_b.eq_1 @gb.eq_1)
  ·subst hv;simp only[] at h;simp only[ZC,gb,TQ];cases h;exact ZL a @V85.eq_1
  ·subst hv;simp only[] at h;obtain⟨rfl,j⟩:=hq;cases h;exact j
theorem w_gg(b:List ay)(c:Int){r:Int}(h:Jj b c=some r):Ok Tryz.prog 86 [.lst .o 4 (b.map (ah .o)),.i c] (.i r):=by
 refine ax aY m86 rfl ?_;unfold Jj at h;simp only[ZC,A86,V85,aB];obtain⟨a,h⟩|⟨a,h⟩:=au h
 ·cases h;exact ZL a @V85.eq_1
 ·cases h;exact ZL a @V85.eq_1
theorem w_gj(b:af)(d:Int){r:Int}(h:Gn b d=some r):Ok Tryz.prog 34 [.agg [.lst .o 1 (b.Nodes.map AV.z),.lst .o 4 (b.Fibers.map (ah .o))],.i d] (.i r):=by
 refine ax aY m34 rfl ?_;unfold Gn at h;simp only[ZC,A34,V85,aB];obtain⟨k,g,h⟩:=ae h;refine ZF trivial ?_;refine ZSG trivial (w_gd _ _ g) ?_;obtain⟨a,h⟩|⟨a,h⟩:=au h
 ·cases h;exact ZL a @V85.eq_1
 ·obtain⟨l,j,h⟩:=ae h;refine ZF a ?_;refine ZSG a (w_gg _ _ j) ?_;obtain⟨c,h⟩|⟨c,h⟩:=au h
  ·cases h;exact ZL (ZA a c) @V85.eq_1
  ·cases h;exact ZL (ZA a c) @V85.eq_1
theorem w_dt(b:List Int)(c:Int){r:Int}(h:CL b c=some r):Ok Tryz.prog 60 [.lst .o 1 (b.map AV.i),.i c] (.i r):=by
 refine ax aY m60 rfl ?_;unfold CL at h;simp only[ZC,A60,V85,aB];obtain⟨a,h⟩|⟨a,h⟩:=au h
 ·cases h;exact ZL a @V85.eq_1
 ·cases h;exact ZL a @V85.eq_1
theorem w_gm(a:ar)(c:Int){r:Int}(h:Mv a c=some r):Ok Tryz.prog 147 [.agg [.i a.Start,.lst .o 1 (a.Fibers.map AV.i)],.i c] (.i r):=by
 refine ax aY m147 rfl ?_;unfold Mv at h;simp only[ZC,A147,V85,aB];obtain⟨g,d,h⟩:=ae h;refine ZF trivial ?_;refine ZSG trivial (w_dt _ _ d) ?_;obtain⟨b,h⟩|⟨b,h⟩:=au h
 ·cases h;exact ZL b @V85.eq_1
 ·cases h;exact ZL b @V85.eq_1
theorem w_gr(a:aq)(c:Int){r:Int}(h:NF a c=some r):Ok Tryz.prog 124 [.agg [.i a.Id,.i a.Route.Start,.lst .o 1 (a.Route.Fibers.map AV.i),.i a.Block.First,.i a.Block.Count],.i c] (.i r):=by
 refine ax aY m124 rfl ?_;unfold NF at h;simp only[ZC,A124,V85,aB];obtain⟨g,d,h⟩:=ae h;refine ZF trivial ?_;refine ZSG trivial (w_gm _ _ d) ?_;obtain⟨b,h⟩|⟨b,h⟩:=au h
 ·cases h;exact ZL b @V85.eq_1
 ·cases h;exact ZL b @V85.eq_1
def S_y(a:List aq)(v:Int×Int):St:=⟨[(0,.lst .o 5 (a.map (ai .o))),(1,.i v.1),(5,.i v.2)],[]⟩
theorem w_y(a:List aq)(d:Int×Int)(o:(Int×Int)⊕(Int⊕Int))(h:M_y a d=some o):AWP (OkS Tryz.prog) HR (qL [0,1,5] [] (S_y a) (qS (qX 0 [1] [] (gb)) (qR V85 (fun r=>.i r))) o) (S_y a d):=by
 have e:=ZA @S_y.eq_1 @gb.eq_1;unfold M_y at h;simp only[ZC,S_y,HR];obtain⟨b,h⟩|⟨b,h⟩:=au h
 ·obtain⟨k,g,h⟩:=ae h;obtain⟨l,j,h⟩:=ae h;have f:=ZA b (aP g);refine ZF f ?_;refine ZSG f (w_gr _ _ j) ?_;obtain⟨c,h⟩|⟨c,h⟩:=au h
  ·cases h;exact ZL (ZA f c) @V85.eq_1
  ·cases h;exact ZL (ZA f c) e
 ·cases h;exact ZL b e
theorem w_dw(b:List aq)(c:Int){r:Int}(h:CG b c=some r):Ok Tryz.prog 59 [.lst .o 5 (b.map (ai .o)),.i c] (.i r):=by
 refine ax aY m59 rfl ?_;unfold CG at h;simp only[ZC,A59,V85,aB];obtain⟨a,h⟩|⟨a,h⟩:=au h
 ·cases h;exact ZL a @V85.eq_1
 ·obtain⟨d,g,h⟩:=ae h;try refine ZF a ?_
  refine bj (o:=d) (bq cy (aG (w_y b) g ?_)) (fun k hv=>?_) (fun l hv e τ hne hq=>?_)
  ·exact ZK (ZA @S_y.eq_1 @gb.eq_1)
  ·subst hv;simp only[] at h;simp only[ZC,gb,Tq];cases h;exact ZL a @V85.eq_1
  ·subst hv;simp only[] at h;obtain⟨rfl,j⟩:=hq;cases h;exact j
theorem w_gs(b:aK)(d:Int){r:Int}(h:Ma b d=some r):Ok Tryz.prog 24 [.agg [.lst .o 1 (b.Network.Nodes.map AV.z),.lst .o 4 (b.Network.Fibers.map (ah .o)),.lst .o 5 (b.Lights.map (ai .o))],.i d] (.i r):=by
 refine ax aY m24 rfl ?_;unfold Ma at h;simp only[ZC,A24,V85,aB];obtain⟨k,g,h⟩:=ae h;refine ZF trivial ?_;refine ZSG trivial (w_gj _ _ g) ?_;obtain⟨a,h⟩|⟨a,h⟩:=au h
 ·cases h;exact ZL a @V85.eq_1
 ·obtain⟨l,j,h⟩:=ae h;refine ZF a ?_;refine ZSG a (w_dw _ _ j) ?_;obtain⟨c,h⟩|⟨c,h⟩:=au h
  ·cases h;exact ZL (ZA a c) @V85.eq_1
  ·cases h;exact ZL (ZA a c) @V85.eq_1
theorem w_gv(a:aj)(g:Int){r:Int}(h:HP a g=some r):Ok Tryz.prog 13 [.agg [.lst .o 1 (a.Plan.Network.Nodes.map AV.z),.lst .o 4 (a.Plan.Network.Fibers.map (ah .o)),.lst .o 5 (a.Plan.Lights.map (ai .o)),.lst .o 5 (a.Home.map (ai .o)),.lst .o 1 (a.Down.map AV.i)],.i g] (.i r):=by
 refine ax aY m13 rfl ?_;unfold HP at h;simp only[ZC,A13,V85,aB];obtain⟨m,j,h⟩:=ae h;refine ZF trivial ?_;refine ZSG trivial (w_gs _ _ j) ?_;obtain⟨b,h⟩|⟨b,h⟩:=au h
 ·cases h;exact ZL b @V85.eq_1
 ·obtain⟨p,k,h⟩:=ae h;refine ZF b ?_;refine ZSG b (w_dw _ _ k) ?_;obtain⟨c,h⟩|⟨c,h⟩:=au h
  ·cases h;exact ZL (ZA b c) @V85.eq_1
  ·obtain⟨q,l,h⟩:=ae h;have f:=ZA b c;refine ZF f ?_;refine ZSG f (w_dt _ _ l) ?_;obtain⟨d,h⟩|⟨d,h⟩:=au h
   ·cases h;exact ZL (ZA f d) @V85.eq_1
   ·cases h;exact ZL (ZA f d) @V85.eq_1
def IV(a:List ByteArray)(v:Int×List ByteArray):St:=⟨[(0,.lst .o 1 (a.map AV.z)),(3,.sl 3 0 v.2.length),(4,.i v.1)],[(3,.arr 1 (v.2.map AV.z))]⟩
def Bx(v:List ByteArray):St:=⟨[(3,.sl 3 0 v.length)],[(3,.arr 1 (v.map AV.z))]⟩
theorem w_ac(b:List ByteArray)(a:Int×List ByteArray)(o:(Int×List ByteArray)⊕(List ByteArray))(h:Dv b a=some o):AWP (OkS Tryz.prog) NV (qL [0,3,4] [3] (IV b) (qX 0 [3] [3] (Bx)) o) (IV b a):=by
 have e:=ZA @IV.eq_1 @Bx.eq_1;unfold Dv at h;simp only[ZC,IV,NV];obtain⟨c,h⟩|⟨c,h⟩:=au h
 ·obtain⟨g,i,h⟩:=ae h;obtain⟨p,j,h⟩:=ae h;obtain⟨q,k,h⟩:=ae h;obtain⟨l,d,h⟩:=bl h;have m:(a.2.map AV.z).set (Int.toNat a.1) (.z g)=l.map AV.z:=by rw[<-d,List.map_set]
  cases h;exact ZL (ZA c (ZA (aP i) (ZA (bf j) (ZA k m)))) (ZA e d.symm)
 ·cases h;exact ZL c e
theorem w_ge(a:List ByteArray){r:List ByteArray}(h:Ol a=some r):Ok Tryz.prog 91 [.lst .o 1 (a.map AV.z)] (.lst .u 1 (r.map AV.z)):=by
 refine ax aY m91 rfl ?_;unfold Ol at h;simp only[ZC,A91,V91,aB];obtain⟨j,c,h⟩:=ae h;obtain⟨d,b,h⟩:=bl h;have g:List.replicate (Int.toNat (a.length:Int)) (.z (⟨#[]⟩:ByteArray):AV)=d.map AV.z:=by rw[<-b,List.map_replicate]
 obtain⟨k,i,h⟩:=ae h;have f:=ZA (bf c) g;try refine ZF f ?_
 refine aJ (bn (aG (w_ac a) i ?_)) ?_
 ·exact ZK (ZA @IV.eq_1 (ZA @Bx.eq_1 (ZA b.symm @Zr)))
 ·simp only[ZC,Bx,Tr];cases h;exact ZL f @V91.eq_1
theorem w_eh(a:ay){r:ay}(h:FH a=some r):Ok Tryz.prog 150 [.agg [.i a.A,.i a.B,.i a.Length,.i a.Risk]] (.agg [.i r.A,.i r.B,.i r.Length,.i r.Risk]):=by
 refine ax aY m150 rfl ?_;unfold FH at h;simp only[ZC,A150,Uj,aB];cases h;exact ZL trivial @Uj.eq_1
def Gt(a:List ay)(v:Int×List ay):St:=⟨[(0,.lst .o 4 (a.map (ah .o))),(3,.sl 3 0 v.2.length),(4,.i v.1)],[(3,.arr 4 (v.2.map (ah .u)))]⟩
def Al(v:List ay):St:=⟨[(3,.sl 3 0 v.length)],[(3,.arr 4 (v.map (ah .u)))]⟩
theorem w_ad(c:List ay)(a:Int×List ay)(o:(Int×List ay)⊕(List ay))(h:DD c a=some o):AWP (OkS Tryz.prog) KZ (qL [0,3,4] [3] (Gt c) (qX 0 [3] [3] (Al)) o) (Gt c a):=by
 have e:=ZA @Gt.eq_1 @Al.eq_1;unfold DD at h;simp only[ZC,Gt,KZ];obtain⟨d,h⟩|⟨d,h⟩:=au h
 ·obtain⟨s,j,h⟩:=ae h;obtain⟨b,k,h⟩:=ae h;have f:=ZA d (aP j);refine ZF f ?_;refine ZUG f (w_eh _ k) ?_;obtain⟨t,l,h⟩:=ae h;obtain⟨v,m,h⟩:=ae h;obtain⟨p,g,h⟩:=bl h;have q:(a.2.map (ah .u)).set (Int.toNat a.1) (.agg [.i b.A,.i b.B,.i b.Length,.i b.Risk])=p.map (ah .u):=by rw[<-g,List.map_set];rfl
  cases h;exact ZL (ZA f (ZA (bf l) (ZA m q))) (ZA e g.symm)
 ·cases h;exact ZL d e
theorem w_gh(a:List ay){r:List ay}(h:Nt a=some r):Ok Tryz.prog 92 [.lst .o 4 (a.map (ah .o))] (.lst .u 4 (r.map (ah .u))):=by
 refine ax aY m92 rfl ?_;unfold Nt at h;simp only[ZC,A92,V91,aB];obtain⟨k,c,h⟩:=ae h;obtain⟨d,b,h⟩:=bl h;have g:List.replicate (Int.toNat (a.length:Int)) (.agg [.i 0,.i 0,.i 0,.i 0]:AV)=d.map (ah .u):=by rw[<-b,List.map_replicate];rfl
 obtain⟨l,j,h⟩:=ae h;have f:=ZA (bf c) g;try refine ZF f ?_
 refine aJ (bn (aG (w_ad a) j ?_)) ?_
 ·exact ZK (ZA @Gt.eq_1 (ZA @Al.eq_1 (ZA b.symm @Zr)))
 ·simp only[ZC,Al,SJ];cases h;exact ZL f @V91.eq_1
theorem w_gk(a:af){r:af}(h:NA a=some r):Ok Tryz.prog 37 [.agg [.lst .o 1 (a.Nodes.map AV.z),.lst .o 4 (a.Fibers.map (ah .o))]] (.agg [.lst .u 1 (r.Nodes.map AV.z),.lst .u 4 (r.Fibers.map (ah .u))]):=by
 refine ax aY m37 rfl ?_;unfold NA at h;simp only[ZC,A37,V37,aB];obtain⟨d,b,h⟩:=ae h;refine ZF trivial ?_;refine ZUG trivial (w_ge _ b) ?_;obtain⟨g,c,h⟩:=ae h;refine ZF trivial ?_;refine ZUG trivial (w_gh _ c) ?_;cases h;exact ZL trivial @V37.eq_1
def S_i(a:List Int)(v:Int×List Int):St:=⟨[(0,.lst .o 1 (a.map AV.i)),(3,.sl 3 0 v.2.length),(4,.i v.1)],[(3,.arr 1 (v.2.map AV.i))]⟩
def oB(v:List Int):St:=⟨[(3,.sl 3 0 v.length)],[(3,.arr 1 (v.map AV.i))]⟩
theorem w_i(b:List Int)(a:Int×List Int)(o:(Int×List Int)⊕(List Int))(h:M_i b a=some o):AWP (OkS Tryz.prog) Nn (qL [0,3,4] [3] (S_i b) (qX 0 [3] [3] (oB)) o) (S_i b a):=by
 have e:=ZA @S_i.eq_1 @oB.eq_1;unfold M_i at h;simp only[ZC,S_i,Nn];obtain⟨c,h⟩|⟨c,h⟩:=au h
 ·obtain⟨g,j,h⟩:=ae h;obtain⟨q,k,h⟩:=ae h;obtain⟨s,l,h⟩:=ae h;obtain⟨m,d,h⟩:=bl h;have p:(a.2.map AV.i).set (Int.toNat a.1) (.i g)=m.map AV.i:=by rw[<-d,List.map_set]
  cases h;exact ZL (ZA c (ZA (aP j) (ZA (bf k) (ZA l p)))) (ZA e d.symm)
 ·cases h;exact ZL c e
theorem w_du(a:List Int){r:List Int}(h:FG a=some r):Ok Tryz.prog 32 [.lst .o 1 (a.map AV.i)] (.lst .u 1 (r.map AV.i)):=by
 refine ax aY m32 rfl ?_;unfold FG at h;simp only[ZC,A32,V91,aB];obtain⟨k,c,h⟩:=ae h;obtain⟨d,b,h⟩:=bl h;have g:List.replicate (Int.toNat (a.length:Int)) (.i 0:AV)=d.map AV.i:=by rw[<-b,List.map_replicate]
 obtain⟨l,j,h⟩:=ae h;have f:=ZA (bf c) g;try refine ZF f ?_
 refine aJ (bn (aG (w_i a) j ?_)) ?_
 ·exact ZK (ZA @S_i.eq_1 (ZA @oB.eq_1 (ZA b.symm @Zr)))
 ·simp only[ZC,oB,Tx];cases h;exact ZL f @V91.eq_1
theorem w_gn(a:ar){r:ar}(h:GK a=some r):Ok Tryz.prog 151 [.agg [.i a.Start,.lst .o 1 (a.Fibers.map AV.i)]] (.agg [.i r.Start,.lst .u 1 (r.Fibers.map AV.i)]):=by
 refine ax aY m151 rfl ?_;unfold GK at h;simp only[ZC,A151,V37,aB];obtain⟨c,b,h⟩:=ae h;refine ZF trivial ?_;refine ZUG trivial (w_du _ b) ?_;cases h;exact ZL trivial @V37.eq_1
theorem w_gp(a:bc){r:bc}(h:Gb a=some r):Ok Tryz.prog 152 [.agg [.i a.First,.i a.Count]] (.agg [.i r.First,.i r.Count]):=by
 refine ax aY m152 rfl ?_;unfold Gb at h;simp only[ZC,A152,V37,aB];cases h;exact ZL trivial @V37.eq_1
theorem w_ej(a:aq){r:aq}(h:DH a=some r):Ok Tryz.prog 127 [.agg [.i a.Id,.i a.Route.Start,.lst .o 1 (a.Route.Fibers.map AV.i),.i a.Block.First,.i a.Block.Count]] (.agg [.i r.Id,.i r.Route.Start,.lst .u 1 (r.Route.Fibers.map AV.i),.i r.Block.First,.i r.Block.Count]):=by
 refine ax aY m127 rfl ?_;unfold DH at h;simp only[ZC,A127,me,aB];obtain⟨d,b,h⟩:=ae h;refine ZF trivial ?_;refine ZUG trivial (w_gn _ b) ?_;obtain⟨g,c,h⟩:=ae h;refine ZF trivial ?_;refine ZUG trivial (w_gp _ c) ?_;cases h;exact ZL trivial @me.eq_1
def S_m(a:List aq)(v:Int×List aq):St:=⟨[(0,.lst .o 5 (a.map (ai .o))),(3,.sl 3 0 v.2.length),(4,.i v.1)],[(3,.arr 5 (v.2.map (ai .u)))]⟩
def wt(v:List aq):St:=⟨[(3,.sl 3 0 v.length)],[(3,.arr 5 (v.map (ai .u)))]⟩
theorem w_m(c:List aq)(b:Int×List aq)(o:(Int×List aq)⊕(List aq))(h:M_m c b=some o):AWP (OkS Tryz.prog) GF (qL [0,3,4] [3] (S_m c) (qX 0 [3] [3] (wt)) o) (S_m c b):=by
 have e:=ZA @S_m.eq_1 @wt.eq_1;unfold M_m at h;simp only[ZC,S_m,GF];obtain⟨d,h⟩|⟨d,h⟩:=au h
 ·obtain⟨s,j,h⟩:=ae h;obtain⟨a,k,h⟩:=ae h;have f:=ZA d (aP j);refine ZF f ?_;refine ZUG f (w_ej _ k) ?_;obtain⟨t,l,h⟩:=ae h;obtain⟨v,m,h⟩:=ae h;obtain⟨p,g,h⟩:=bl h;have q:(b.2.map (ai .u)).set (Int.toNat b.1) (.agg [.i a.Id,.i a.Route.Start,.lst .u 1 (a.Route.Fibers.map AV.i),.i a.Block.First,.i a.Block.Count])=p.map (ai .u):=by rw[<-g,List.map_set];rfl
  cases h;exact ZL (ZA f (ZA (bf l) (ZA m q))) (ZA e g.symm)
 ·cases h;exact ZL d e
theorem w_dx(a:List aq){r:List aq}(h:Ei a=some r):Ok Tryz.prog 62 [.lst .o 5 (a.map (ai .o))] (.lst .u 5 (r.map (ai .u))):=by
 refine ax aY m62 rfl ?_;unfold Ei at h;simp only[ZC,A62,V91,aB];obtain⟨k,c,h⟩:=ae h;obtain⟨d,b,h⟩:=bl h;have g:List.replicate (Int.toNat (a.length:Int)) (.agg [.i 0,.i 0,.lst .u 1 [],.i 0,.i 0]:AV)=d.map (ai .u):=by rw[<-b,List.map_replicate];rfl
 obtain⟨l,j,h⟩:=ae h;have f:=ZA (bf c) g;try refine ZF f ?_
 refine aJ (bn (aG (w_m a) j ?_)) ?_
 ·exact ZK (ZA @S_m.eq_1 (ZA @wt.eq_1 (ZA b.symm @Zr)))
 ·simp only[ZC,wt,Tv];cases h;exact ZL f @V91.eq_1
theorem w_gt(a:aK){r:aK}(h:GN a=some r):Ok Tryz.prog 26 [.agg [.lst .o 1 (a.Network.Nodes.map AV.z),.lst .o 4 (a.Network.Fibers.map (ah .o)),.lst .o 5 (a.Lights.map (ai .o))]] (.agg [.lst .u 1 (r.Network.Nodes.map AV.z),.lst .u 4 (r.Network.Fibers.map (ah .u)),.lst .u 5 (r.Lights.map (ai .u))]):=by
 refine ax aY m26 rfl ?_;unfold GN at h;simp only[ZC,A26,V26,aB];obtain⟨d,b,h⟩:=ae h;refine ZF trivial ?_;refine ZUG trivial (w_gk _ b) ?_;obtain⟨g,c,h⟩:=ae h;refine ZF trivial ?_;refine ZUG trivial (w_dx _ c) ?_;cases h;exact ZL trivial @V26.eq_1
theorem QB(a:aj){r:aj}(h:wA a=some r):Ok Tryz.prog 15 [.agg [.lst .o 1 (a.Plan.Network.Nodes.map AV.z),.lst .o 4 (a.Plan.Network.Fibers.map (ah .o)),.lst .o 5 (a.Plan.Lights.map (ai .o)),.lst .o 5 (a.Home.map (ai .o)),.lst .o 1 (a.Down.map AV.i)]] (.agg [.lst .u 1 (r.Plan.Network.Nodes.map AV.z),.lst .u 4 (r.Plan.Network.Fibers.map (ah .u)),.lst .u 5 (r.Plan.Lights.map (ai .u)),.lst .u 5 (r.Home.map (ai .u)),.lst .u 1 (r.Down.map AV.i)]):=by
 refine ax aY m15 rfl ?_;unfold wA at h;simp only[ZC,A15,me,aB];obtain⟨g,b,h⟩:=ae h;refine ZF trivial ?_;refine ZUG trivial (w_gt _ b) ?_;obtain⟨j,c,h⟩:=ae h;refine ZF trivial ?_;refine ZUG trivial (w_dx _ c) ?_;obtain⟨k,d,h⟩:=ae h;refine ZF trivial ?_;refine ZUG trivial (w_du _ d) ?_;cases h;exact ZL trivial @me.eq_1
theorem w_d(c:Int)(d:Int)(g:Int){r:Bool}(h:M_d c d g=some r):Ok Tryz.prog 178 [.i c,.i d,.i g] (.b r):=by
 refine ax aY m178 rfl ?_;unfold M_d at h;simp only[ZC,A178,eI,aB];obtain⟨a,h⟩|⟨a,h⟩:=au h
 ·cases h;exact ZL a @eI.eq_1
 ·cases h;exact ZL a @eI.eq_1
theorem w_hc(i:Int){r:Bool}(h:MC i=some r):Ok Tryz.prog 224 [.sc (.int .u8 i)] (.b r):=by
 have e:=@V91.eq_1;refine ax aY m224 rfl ?_;unfold MC at h;simp only[ZC,A224,V91,aB];obtain⟨a,h⟩|⟨a,h⟩:=au h
 ·obtain⟨c,h⟩|⟨c,h⟩:=au h
  ·cases h;exact ZL (ZA a c) e
  ·obtain⟨d,h⟩|⟨d,h⟩:=au h
   ·cases h;exact ZL (ZA a (ZA c d)) e
   ·cases h;exact ZL (ZA a (ZA c d)) e
 ·obtain⟨g,h⟩|⟨g,h⟩:=au h
  ·cases h;exact ZL (ZA a g) e
  ·cases h;exact ZL (ZA a g) e
def S_a(a:ByteArray)(v:Int):St:=⟨[(0,.z a),(3,.i v)],[]⟩
def bN(v:Unit):St:=⟨[],[]⟩
theorem w_a(a:ByteArray)(g:Int)(o:Int⊕(Unit⊕Bool))(h:M_a a g=some o):AWP (OkS Tryz.prog) yk (qL [0,3] [] (S_a a) (qS (qX 0 [] [] (bN)) (qR V91 (fun r=>.b r))) o) (S_a a g):=by
 have e:=ZA @S_a.eq_1 @bN.eq_1;unfold M_a at h;simp only[ZC,S_a,yk];obtain⟨c,h⟩|⟨c,h⟩:=au h
 ·obtain⟨k,i,h⟩:=ae h;obtain⟨l,j,h⟩:=ae h;have f:=ZA c (jU i);refine ZF f ?_;refine ZSG f (w_hc _ j) ?_;obtain⟨d,h⟩|⟨d,h⟩:=au h
  ·cases h;exact ZL (ZA f d) @V91.eq_1
  ·cases h;exact ZL (ZA f d) e
 ·cases h;exact ZL c e
theorem w_hd(a:ByteArray){r:Bool}(h:Jm a=some r):Ok Tryz.prog 187 [.z a] (.b r):=by
 refine ax aY m187 rfl ?_;unfold Jm at h;simp only[ZC,A187,V91,aB];obtain⟨j,k,h⟩:=ae h;try refine ZF trivial ?_
 refine aJ (sh:=(fun v=>⟨[(0,.z a),(17,.b v)],[]⟩)) (s:=j) ?_ ?_
 ·replace h:=k;obtain⟨t,l,h⟩:=ae h;refine ZF trivial ?_;refine ZSG trivial (w_d _ _ _ l) ?_;obtain⟨c,h⟩|⟨c,h⟩:=au h
  ·cases h;exact ZL c trivial
  ·obtain⟨u,i,h⟩:=ae h;obtain⟨g,h⟩|⟨g,h⟩:=au h
   ·cases h;exact ZL (ZA c (ZA (jU i) g)) trivial
   ·cases h;exact ZL (ZA c (ZA (jU i) g)) trivial
 ·simp only[ZC,LP];obtain⟨d,h⟩|⟨d,h⟩:=au h
  ·cases h;exact ZL d @V91.eq_1
  ·obtain⟨m,p,h⟩:=ae h;try refine ZF d ?_
   refine bj (o:=m) (bq cy (aG (w_a a) p ?_)) (fun w hv=>?_) (fun x hv e τ hne hq=>?_)
   ·exact ZK (ZA @S_a.eq_1 @bN.eq_1)
   ·subst hv;simp only[] at h;simp only[ZC,bN,GR];cases h;exact ZL d @V91.eq_1
   ·subst hv;simp only[] at h;obtain⟨rfl,q⟩:=hq;cases h;exact q
def Kh(a:List ByteArray)(b:ByteArray)(v:Int):St:=⟨[(0,.lst .o 1 (a.map AV.z)),(1,.z b),(5,.i v)],[]⟩
theorem w_cb(b:List ByteArray)(c:ByteArray)(g:Int)(o:Int⊕(Unit⊕Int))(h:ER b c g=some o):AWP (OkS Tryz.prog) xu (qL [0,1,5] [] (Kh b c) (qS (qX 0 [] [] (bN)) (qR V85 (fun r=>.i r))) o) (Kh b c g):=by
 have e:=ZA @Kh.eq_1 @bN.eq_1;unfold ER at h;simp only[ZC,Kh,xu];obtain⟨a,h⟩|⟨a,h⟩:=au h
 ·obtain⟨k,j,h⟩:=ae h;obtain⟨d,h⟩|⟨d,h⟩:=au h
  ·cases h;exact ZL (ZA a (ZA (aP j) d)) @V85.eq_1
  ·cases h;exact ZL (ZA a (ZA (aP j) d)) e
 ·cases h;exact ZL a e
theorem w_he(a:List ByteArray)(b:ByteArray){r:Int}(h:Jt a b=some r):Ok Tryz.prog 188 [.lst .o 1 (a.map AV.z),.z b] (.i r):=by
 refine ax aY m188 rfl ?_;unfold Jt at h;simp only[ZC,A188,V85,aB];obtain⟨c,d,h⟩:=ae h;try refine ZF trivial ?_
 refine bj (o:=c) (bq cy (aG (w_cb a b) d ?_)) (fun j hv=>?_) (fun k hv e τ hne hq=>?_)
 ·exact ZK (ZA @Kh.eq_1 @bN.eq_1)
 ·subst hv;simp only[] at h;simp only[ZC,bN,Jp];cases h;exact ZL trivial @V85.eq_1
 ·subst hv;simp only[] at h;obtain⟨rfl,g⟩:=hq;cases h;exact g
theorem w_fi(c:ay)(j:Int){r:Bool}(h:HC c j=some r):Ok Tryz.prog 189 [.agg [.i c.A,.i c.B,.i c.Length,.i c.Risk],.i j] (.b r):=by
 have e:=@V85.eq_1;refine ax aY m189 rfl ?_;unfold HC at h;simp only[ZC,A189,V85,aB];obtain⟨q,k,h⟩:=ae h;refine ZF trivial ?_;refine ZSG trivial (w_d _ _ _ k) ?_;obtain⟨a,h⟩|⟨a,h⟩:=au h
 ·obtain⟨s,l,h⟩:=ae h;refine ZF a ?_;refine ZSG a (w_d _ _ _ l) ?_;obtain⟨d,h⟩|⟨d,h⟩:=au h
  ·obtain⟨t,m,h⟩:=ae h;have f:=ZA a d;refine ZF f ?_;refine ZSG f (w_d _ _ _ m) ?_;obtain⟨g,h⟩|⟨g,h⟩:=au h
   ·obtain⟨u,p,h⟩:=ae h;have f:=ZA f g;refine ZF f ?_;refine ZSG f (w_d _ _ _ p) ?_;cases h;exact ZL f e
   ·cases h;exact ZL (ZA f g) e
  ·cases h;exact ZL (ZA a d) e
 ·cases h;exact ZL a e
theorem w_fj(a:ay)(b:ay){r:Int}(h:NR a b=some r):Ok Tryz.prog 190 [.agg [.i a.A,.i a.B,.i a.Length,.i a.Risk],.agg [.i b.A,.i b.B,.i b.Length,.i b.Risk]] (.i r):=by
 have e:=@V85.eq_1;refine ax aY m190 rfl ?_;unfold NR at h;simp only[ZC,A190,V85,aB];obtain⟨c,h⟩|⟨c,h⟩:=au h
 ·cases h;exact ZL c e
 ·obtain⟨d,h⟩|⟨d,h⟩:=au h
  ·cases h;exact ZL (ZA c d) e
  ·obtain⟨g,h⟩|⟨g,h⟩:=au h
   ·cases h;exact ZL (ZA c (ZA d g)) e
   ·cases h;exact ZL (ZA c (ZA d g)) e
def S_g(a:af)(v:Int):St:=⟨[(1,.pt 1 0 0),(3,.i v)],[(1,.var (.agg [.lst .o 1 (a.Nodes.map AV.z),.lst .o 4 (a.Fibers.map (ah .o))]))]⟩
def ma(a:af)(v:Unit):St:=⟨[(1,.pt 1 0 0)],[(1,.var (.agg [.lst .o 1 (a.Nodes.map AV.z),.lst .o 4 (a.Fibers.map (ah .o))]))]⟩
theorem w_g(a:af)(d:Int)(o:Int⊕(Unit⊕Bool))(h:M_g a d=some o):AWP (OkS Tryz.prog) Ab (qL [1,3] [1] (S_g a) (qS (qX 0 [1] [1] (ma a)) (qR V91 (fun r=>.b r))) o) (S_g a d):=by
 have e:=ZA @S_g.eq_1 @ma.eq_1;unfold M_g at h;simp only[ZC,S_g,Ab];obtain⟨c,h⟩|⟨c,h⟩:=au h
 ·obtain⟨k,l,h⟩:=ae h;try refine ZF c ?_
  refine aJ (sh:=(fun v=>⟨[(1,.pt 1 0 0),(3,.i d),(41,.b v)],[(1,.var (.agg [.lst .o 1 (a.Nodes.map AV.z),.lst .o 4 (a.Fibers.map (ah .o))]))]⟩)) (s:=k) ?_ ?_
  ·replace h:=l;obtain⟨t,m,h⟩:=ae h;obtain⟨u,p,h⟩:=ae h;have f:=ZA c (aP m);refine ZF f ?_;refine ZSG f (w_hd _ p) ?_;obtain⟨g,h⟩|⟨g,h⟩:=au h
   ·cases h;exact ZL (ZA f g) trivial
   ·obtain⟨w,q,h⟩:=ae h;have f:=ZA f g;refine ZF f ?_;refine ZSG f (w_he _ _ q) ?_;cases h;exact ZL f trivial
  ·simp only[ZC,GY];obtain⟨j,h⟩|⟨j,h⟩:=au h
   ·cases h;exact ZL (ZA c j) @V91.eq_1
   ·cases h;exact ZL (ZA c j) e
 ·cases h;exact ZL c e
def JX(a:af)(v:Int):St:=⟨[(1,.pt 1 0 0),(4,.i v)],[(1,.var (.agg [.lst .o 1 (a.Nodes.map AV.z),.lst .o 4 (a.Fibers.map (ah .o))]))]⟩
theorem w_bl(c:af)(g:Int)(o:Int⊕(Unit⊕Bool))(h:Cl c g=some o):AWP (OkS Tryz.prog) zA (qL [1,4] [1] (JX c) (qS (qX 2 [] [] (bN)) (qR V91 (fun r=>.b r))) o) (JX c g):=by
 have e:=ZA @JX.eq_1 @bN.eq_1;unfold Cl at h;simp only[ZC,JX,zA];obtain⟨a,h⟩|⟨a,h⟩:=au h
 ·obtain⟨l,m,h⟩:=ae h;try refine ZF a ?_
  refine aJ (sh:=(fun v=>⟨[(1,.pt 1 0 0),(4,.i g),(77,.b v)],[(1,.var (.agg [.lst .o 1 (c.Nodes.map AV.z),.lst .o 4 (c.Fibers.map (ah .o))]))]⟩)) (s:=l) ?_ ?_
  ·replace h:=m;obtain⟨w,p,h⟩:=ae h;obtain⟨x,q,h⟩:=ae h;have f:=ZA a (aP p);refine ZF f ?_;refine ZSG f (w_fi _ _ q) ?_;obtain⟨d,h⟩|⟨d,h⟩:=au h
   ·cases h;exact ZL (ZA f d) trivial
   ·obtain⟨j,h⟩|⟨j,h⟩:=au h
    ·obtain⟨y,t,h⟩:=ae h;obtain⟨a1,u,h⟩:=ae h;have f:=ZA f (ZA d (ZA j (aP t)));refine ZF f ?_;refine ZSG f (w_fj _ _ u) ?_;cases h;exact ZL f trivial
    ·cases h;exact ZL (ZA f (ZA d j)) trivial
  ·simp only[ZC,KG];obtain⟨k,h⟩|⟨k,h⟩:=au h
   ·cases h;exact ZL (ZA a k) @V91.eq_1
   ·cases h;exact ZL (ZA a k) e
 ·cases h;exact ZL a e
theorem VR(a:af){r:Bool}(h:Aa a=some r):Ok Tryz.prog 138 [.agg [.lst .o 1 (a.Nodes.map AV.z),.lst .o 4 (a.Fibers.map (ah .o))]] (.b r):=by
 refine ax aY m138 rfl ?_;unfold Aa at h;simp only[ZC,A138,V91,aB];obtain⟨g,i,h⟩:=ae h;try refine ZF trivial ?_
 refine aJ (sh:=(fun v=>⟨[(1,.pt 1 0 0),(15,.b v)],[(1,.var (.agg [.lst .o 1 (a.Nodes.map AV.z),.lst .o 4 (a.Fibers.map (ah .o))]))]⟩)) (s:=g) ?_ ?_
 ·replace h:=i;obtain⟨u,j,h⟩:=ae h;refine ZF trivial ?_;refine ZSG trivial (w_d _ _ _ j) ?_;obtain⟨d,h⟩|⟨d,h⟩:=au h
  ·cases h;exact ZL d trivial
  ·cases h;exact ZL d trivial
 ·simp only[ZC,Jq];obtain⟨c,h⟩|⟨c,h⟩:=au h
  ·cases h;exact ZL c @V91.eq_1
  ·obtain⟨k,l,h⟩:=ae h;try refine ZF c ?_
   refine bj (o:=k) (bq cy (aG (w_g a) l ?_)) (fun w hv=>?_) (fun x hv e τ hne hq=>?_)
   ·exact ZK (ZA @S_g.eq_1 @ma.eq_1)
   ·subst hv;simp only[] at h;simp only[ZC,ma,Ja];obtain⟨m,p,h⟩:=ae h;try refine ZF c ?_
    refine bj (o:=m) (bq cy (aG (w_bl a) p ?_)) (fun y hv=>?_) (fun a1 hv e τ hne hq=>?_)
    ·exact ZK (ZA @JX.eq_1 @bN.eq_1)
    ·subst hv;simp only[] at h;simp only[ZC,bN,Ke];cases h;exact ZL c @V91.eq_1
    ·subst hv;simp only[] at h;obtain⟨rfl,q⟩:=hq;cases h;exact q
   ·subst hv;simp only[] at h;obtain⟨rfl,t⟩:=hq;cases h;exact t
theorem Vz(b:af)(g:Int)(j:Int){r:Int}(h:zn b g j=some r):Ok Tryz.prog 246 [.agg [.lst .o 1 (b.Nodes.map AV.z),.lst .o 4 (b.Fibers.map (ah .o))],.i g,.i j] (.i r):=by
 refine ax aY m246 rfl ?_;unfold zn at h;simp only[ZC,A246,eI,aB];obtain⟨k,c,h⟩:=ae h;obtain⟨a,h⟩|⟨a,h⟩:=au h
 ·cases h;exact ZL (ZA (aP c) a) @eI.eq_1
 ·obtain⟨d,h⟩|⟨d,h⟩:=au h
  ·cases h;exact ZL (ZA (aP c) (ZA a d)) @eI.eq_1
  ·cases h;exact ZL (ZA (aP c) (ZA a d)) @eI.eq_1
def Gj(a:List Int)(b:Int)(v:Int):St:=⟨[(0,.lst .o 1 (a.map AV.i)),(1,.i b),(5,.i v)],[]⟩
theorem w_ca(c:List Int)(d:Int)(i:Int)(o:Int⊕(Unit⊕Bool))(h:FM c d i=some o):AWP (OkS Tryz.prog) zy (qL [0,1,5] [] (Gj c d) (qS (qX 0 [] [] (bN)) (qR V85 (fun r=>.b r))) o) (Gj c d i):=by
 have e:=ZA @Gj.eq_1 @bN.eq_1;unfold FM at h;simp only[ZC,Gj,zy];obtain⟨a,h⟩|⟨a,h⟩:=au h
 ·obtain⟨k,j,h⟩:=ae h;obtain⟨g,h⟩|⟨g,h⟩:=au h
  ·cases h;exact ZL (ZA a (ZA (aP j) g)) @V85.eq_1
  ·cases h;exact ZL (ZA a (ZA (aP j) g)) e
 ·cases h;exact ZL a e
theorem Mb(a:List Int)(c:Int){r:Bool}(h:uI a c=some r):Ok Tryz.prog 144 [.lst .o 1 (a.map AV.i),.i c] (.b r):=by
 refine ax aY m144 rfl ?_;unfold uI at h;simp only[ZC,A144,V85,aB];obtain⟨d,g,h⟩:=ae h;try refine ZF trivial ?_
 refine bj (o:=d) (bq cy (aG (w_ca a c) g ?_)) (fun k hv=>?_) (fun l hv e τ hne hq=>?_)
 ·exact ZK (ZA @Gj.eq_1 @bN.eq_1)
 ·subst hv;simp only[] at h;simp only[ZC,bN,GB];cases h;exact ZL trivial @V85.eq_1
 ·subst hv;simp only[] at h;obtain⟨rfl,j⟩:=hq;cases h;exact j
def S_k(a:af)(b:ar)(v:Int×List Int):St:=⟨[(2,.pt 2 0 0),(3,.pt 3 0 0),(6,.sl 6 0 v.2.length),(7,.i v.1)],[(2,.var (.agg [.lst .o 1 (a.Nodes.map AV.z),.lst .o 4 (a.Fibers.map (ah .o))])),(3,.var (.agg [.i b.Start,.lst .o 1 (b.Fibers.map AV.i)])),(6,.arr 1 (v.2.map AV.i))]⟩
def rL(v:List Int):St:=⟨[(6,.sl 6 0 v.length)],[(6,.arr 1 (v.map AV.i))]⟩
theorem w_k(c:af)(d:ar)(a:Int×List Int)(o:(Int×List Int)⊕((List Int)⊕(List Int×Bool)))(h:M_k c d a=some o):AWP (OkS Tryz.prog) yw (qL [2,3,6,7] [2,3,6] (S_k c d) (qS (qX 0 [6] [6] (rL)) (qR nb (fun r=>.tup [.lst .u 1 (r.1.map AV.i),.b r.2]))) o) (S_k c d a):=by
 unfold M_k at h;simp only[ZC,S_k,yw];obtain⟨j,h⟩|⟨j,h⟩:=au h
 ·obtain⟨s1,b1,h⟩:=ae h;obtain⟨t1,c1,h⟩:=ae h;have f:=ZA j (aP b1);refine ZF f ?_;refine ZSG f (w_d _ _ _ c1) ?_;obtain⟨k,h⟩|⟨k,h⟩:=au h
  ·cases h;exact ZL (ZA f k) @nb.eq_1
  ·obtain⟨u1,d1,h⟩:=ae h;obtain⟨v1,g1,h⟩:=ae h;obtain⟨t,i1,h⟩:=ae h;have f:=ZA f (ZA k (ZA (bf d1) g1));refine ZF f ?_;refine ZSG f (Vz _ _ _ i1) ?_;obtain⟨j1,k1,h⟩:=ae h;try refine ZF f ?_
   refine aJ (sh:=(fun v=>⟨[(2,.pt 2 0 0),(3,.pt 3 0 0),(6,.sl 6 0 a.2.length),(7,.i a.1),(8,.i t),(65,.b v)],[(2,.var (.agg [.lst .o 1 (c.Nodes.map AV.z),.lst .o 4 (c.Fibers.map (ah .o))])),(3,.var (.agg [.i d.Start,.lst .o 1 (d.Fibers.map AV.i)])),(6,.arr 1 (a.2.map AV.i))]⟩)) (s:=j1) ?_ ?_
   ·replace h:=k1;obtain⟨l,h⟩|⟨l,h⟩:=au h
    ·cases h;exact ZL (ZA f l) trivial
    ·obtain⟨w1,l1,h⟩:=ae h;have f:=ZA f l;refine ZF f ?_;refine ZSG f (Mb _ _ l1) ?_;cases h;exact ZL f trivial
   ·simp only[ZC,KR];obtain⟨m,h⟩|⟨m,h⟩:=au h
    ·cases h;exact ZL (ZA f m) @nb.eq_1
    ·obtain⟨p,g,h⟩:=bl h;have m1:Row.arr 1 [(.i t:AV)]=Row.arr 1 (p.map AV.i):=by rw[<-g];rfl
     have w:p.length=1:=by rw[<-g];rfl
     obtain⟨y1,p1,h⟩:=ae h;have x:=bf p1;obtain⟨y,q,h⟩:=bl h;have q1:a.2.map AV.i++p.map AV.i=y.map AV.i:=by rw[<-q,List.map_append]
     have a1:a.2.length+1=y.length:=by simp[<-g,<-q]<;>omega
     rw[a1] at x;cases h;exact ZL (ZA f (ZA m (ZA m1 (ZA w (ZA x (ZA q1 a1)))))) (ZA @S_k.eq_1 (ZA @rL.eq_1 (ZA g.symm (ZA q.symm w))))
 ·cases h;exact ZL j (ZA @S_k.eq_1 @rL.eq_1)
theorem w_ds(c:af)(a:ar){r:List Int×Bool}(h:Ca c a=some r):Ok Tryz.prog 220 [.agg [.lst .o 1 (c.Nodes.map AV.z),.lst .o 4 (c.Fibers.map (ah .o))],.agg [.i a.Start,.lst .o 1 (a.Fibers.map AV.i)]] (.tup [.lst .u 1 (r.1.map AV.i),.b r.2]):=by
 refine ax aY m220 rfl ?_;unfold Ca at h;simp only[ZC,A220,nb,aB];obtain⟨g,j,h⟩:=bl h;have m:Row.arr 1 [(.i a.Start:AV)]=Row.arr 1 (g.map AV.i):=by rw[<-j];rfl
 have d:g.length=1:=by rw[<-j];rfl
 obtain⟨p,q,h⟩:=ae h;have f:=ZA m d;try refine ZF f ?_
 refine aJ (sh:=(fun v=>⟨[(2,.pt 2 0 0),(3,.pt 3 0 0),(6,.sl 6 0 g.length),(25,.b v)],[(2,.var (.agg [.lst .o 1 (c.Nodes.map AV.z),.lst .o 4 (c.Fibers.map (ah .o))])),(3,.var (.agg [.i a.Start,.lst .o 1 (a.Fibers.map AV.i)])),(6,.arr 1 (g.map AV.i))]⟩)) (s:=p) ?_ ?_
 ·replace h:=q;obtain⟨a1,t,h⟩:=ae h;refine ZF f ?_;refine ZSG f (w_d _ _ _ t) ?_;obtain⟨k,h⟩|⟨k,h⟩:=au h
  ·cases h;exact ZL (ZA f k) (ZA j.symm d)
  ·cases h;exact ZL (ZA f k) (ZA j.symm d)
 ·simp only[ZC,Gl];obtain⟨l,h⟩|⟨l,h⟩:=au h
  ·cases h;exact ZL (ZA f l) (ZA @nb.eq_1 d)
  ·obtain⟨w,x,h⟩:=ae h;have f:=ZA f l;try refine ZF f ?_
   refine bj (o:=w) (bq cy (aG (w_k c a) x ?_)) (fun b1 hv=>?_) (fun c1 hv e τ hne hq=>?_)
   ·exact ZK (ZA @S_k.eq_1 (ZA @rL.eq_1 d))
   ·subst hv;simp only[] at h;simp only[ZC,rL,IX];cases h;exact ZL f (ZA @nb.eq_1 d)
   ·subst hv;simp only[] at h;obtain⟨rfl,y⟩:=hq;cases h;exact y
theorem w_ed(c:af)(d:ar){r:Bool}(h:Df c d=some r):Ok Tryz.prog 191 [.agg [.lst .o 1 (c.Nodes.map AV.z),.lst .o 4 (c.Fibers.map (ah .o))],.agg [.i d.Start,.lst .o 1 (d.Fibers.map AV.i)]] (.b r):=by
 refine ax aY m191 rfl ?_;unfold Df at h;simp only[ZC,A191,V85,aB];obtain⟨k,g,h⟩:=ae h;refine ZF trivial ?_;refine ZSG trivial (VR _ g) ?_;obtain⟨a,h⟩|⟨a,h⟩:=au h
 ·cases h;exact ZL a @V85.eq_1
 ·obtain⟨l,j,h⟩:=ae h;refine ZF a ?_;refine ZUG a (w_ds _ _ j) ?_;cases h;exact ZL a @V85.eq_1
theorem w_fd(c:bc){r:Bool}(h:MR c=some r):Ok Tryz.prog 192 [.agg [.i c.First,.i c.Count]] (.b r):=by
 refine ax aY m192 rfl ?_;unfold MR at h;simp only[ZC,A192,V91,aB];obtain⟨j,d,h⟩:=ae h;refine ZF trivial ?_;refine ZSG trivial (w_d _ _ _ d) ?_;obtain⟨a,h⟩|⟨a,h⟩:=au h
 ·obtain⟨k,g,h⟩:=ae h;refine ZF a ?_;refine ZSG a (w_d _ _ _ g) ?_;cases h;exact ZL a @V91.eq_1
 ·cases h;exact ZL a @V91.eq_1
theorem w_fg(d:af)(a:aq){r:Bool}(h:Kq d a=some r):Ok Tryz.prog 139 [.agg [.lst .o 1 (d.Nodes.map AV.z),.lst .o 4 (d.Fibers.map (ah .o))],.agg [.i a.Id,.i a.Route.Start,.lst .o 1 (a.Route.Fibers.map AV.i),.i a.Block.First,.i a.Block.Count]] (.b r):=by
 refine ax aY m139 rfl ?_;unfold Kq at h;simp only[ZC,A139,V85,aB];obtain⟨m,j,h⟩:=ae h;refine ZF trivial ?_;refine ZSG trivial (w_d _ _ _ j) ?_;obtain⟨c,h⟩|⟨c,h⟩:=au h
 ·obtain⟨p,k,h⟩:=ae h;refine ZF c ?_;refine ZSG c (w_ed _ _ k) ?_;obtain⟨g,h⟩|⟨g,h⟩:=au h
  ·obtain⟨q,l,h⟩:=ae h;have f:=ZA c g;refine ZF f ?_;refine ZSG f (w_fd _ l) ?_;cases h;exact ZL f @V85.eq_1
  ·cases h;exact ZL (ZA c g) @V85.eq_1
 ·cases h;exact ZL c @V85.eq_1
def Lk(a:ar)(b:List Int)(v:Int):St:=⟨[(1,.lst .o 1 (b.map AV.i)),(2,.pt 2 0 0),(5,.i v)],[(2,.var (.agg [.i a.Start,.lst .o 1 (a.Fibers.map AV.i)]))]⟩
theorem w_bi(a:ar)(c:List Int)(i:Int)(o:Int⊕(Unit⊕Bool))(h:EC a c i=some o):AWP (OkS Tryz.prog) zR (qL [1,2,5] [2] (Lk a c) (qS (qX 0 [] [] (bN)) (qR V85 (fun r=>.b r))) o) (Lk a c i):=by
 have e:=ZA @Lk.eq_1 @bN.eq_1;unfold EC at h;simp only[ZC,Lk,zR];obtain⟨d,h⟩|⟨d,h⟩:=au h
 ·obtain⟨l,j,h⟩:=ae h;obtain⟨m,k,h⟩:=ae h;have f:=ZA d (aP j);refine ZF f ?_;refine ZSG f (Mb _ _ k) ?_;obtain⟨g,h⟩|⟨g,h⟩:=au h
  ·cases h;exact ZL (ZA f g) @V85.eq_1
  ·cases h;exact ZL (ZA f g) e
 ·cases h;exact ZL d e
theorem Sw(a:ar)(c:List Int){r:Bool}(h:xb a c=some r):Ok Tryz.prog 125 [.agg [.i a.Start,.lst .o 1 (a.Fibers.map AV.i)],.lst .o 1 (c.map AV.i)] (.b r):=by
 refine ax aY m125 rfl ?_;unfold xb at h;simp only[ZC,A125,V85,aB];obtain⟨d,g,h⟩:=ae h;try refine ZF trivial ?_
 refine bj (o:=d) (bq cy (aG (w_bi a c) g ?_)) (fun k hv=>?_) (fun l hv e τ hne hq=>?_)
 ·exact ZK (ZA @Lk.eq_1 @bN.eq_1)
 ·subst hv;simp only[] at h;simp only[ZC,bN,Ia];cases h;exact ZL trivial @V85.eq_1
 ·subst hv;simp only[] at h;obtain⟨rfl,j⟩:=hq;cases h;exact j
theorem IQ(a:bc){r:Int}(h:rT a=some r):Ok Tryz.prog 167 [.agg [.i a.First,.i a.Count]] (.i r):=by
 refine ax aY m167 rfl ?_;unfold rT at h;simp only[ZC,A167,V91,aB];obtain⟨d,b,h⟩:=ae h;obtain⟨g,c,h⟩:=ae h;cases h;exact ZL (ZA (bf b) (bf c)) @V91.eq_1
theorem w_fh(c:aq)(d:aq){r:Bool}(h:Nf c d=some r):Ok Tryz.prog 140 [.agg [.i c.Id,.i c.Route.Start,.lst .o 1 (c.Route.Fibers.map AV.i),.i c.Block.First,.i c.Block.Count],.agg [.i d.Id,.i d.Route.Start,.lst .o 1 (d.Route.Fibers.map AV.i),.i d.Block.First,.i d.Block.Count]] (.b r):=by
 refine ax aY m140 rfl ?_;unfold Nf at h;simp only[ZC,A140,V85,aB];obtain⟨l,g,h⟩:=ae h;refine ZF trivial ?_;refine ZSG trivial (Sw _ _ g) ?_;obtain⟨a,h⟩|⟨a,h⟩:=au h
 ·obtain⟨m,j,h⟩:=ae h;refine ZF a ?_;refine ZSG a (IQ _ j) ?_;obtain⟨p,k,h⟩:=ae h;refine ZF a ?_;refine ZSG a (IQ _ k) ?_;cases h;exact ZL a @V85.eq_1
 ·cases h;exact ZL a @V85.eq_1
def S_r(a:aK)(b:Int)(v:Int):St:=⟨[(1,.pt 1 0 0),(3,.i b),(4,.i v)],[(1,.var (.agg [.lst .o 1 (a.Network.Nodes.map AV.z),.lst .o 4 (a.Network.Fibers.map (ah .o)),.lst .o 5 (a.Lights.map (ai .o))]))]⟩
def PM(a:aK)(b:Int)(v:Unit):St:=⟨[(1,.pt 1 0 0),(3,.i b)],[(1,.var (.agg [.lst .o 1 (a.Network.Nodes.map AV.z),.lst .o 4 (a.Network.Fibers.map (ah .o)),.lst .o 5 (a.Lights.map (ai .o))]))]⟩
theorem w_r(a:aK)(c:Int)(i:Int)(o:Int⊕(Unit⊕Bool))(h:M_r a c i=some o):AWP (OkS Tryz.prog) Lv (qL [1,3,4] [1] (S_r a c) (qS (qX 2 [1,3] [1] (PM a c)) (qR V91 (fun r=>.b r))) o) (S_r a c i):=by
 have e:=ZA @S_r.eq_1 @PM.eq_1;unfold M_r at h;simp only[ZC,S_r,Lv];obtain⟨d,h⟩|⟨d,h⟩:=au h
 ·obtain⟨m,j,h⟩:=ae h;obtain⟨p,k,h⟩:=ae h;obtain⟨q,l,h⟩:=ae h;have f:=ZA d (ZA (aP j) (aP k));refine ZF f ?_;refine ZSG f (w_fh _ _ l) ?_;obtain⟨g,h⟩|⟨g,h⟩:=au h
  ·cases h;exact ZL (ZA f g) @V91.eq_1
  ·cases h;exact ZL (ZA f g) e
 ·cases h;exact ZL d e
def LH(a:aK)(v:Int):St:=⟨[(1,.pt 1 0 0),(3,.i v)],[(1,.var (.agg [.lst .o 1 (a.Network.Nodes.map AV.z),.lst .o 4 (a.Network.Fibers.map (ah .o)),.lst .o 5 (a.Lights.map (ai .o))]))]⟩
theorem w_bk(a:aK)(d:Int)(o:Int⊕(Unit⊕Bool))(h:Er a d=some o):AWP (OkS Tryz.prog) JV (qL [1,3] [1] (LH a) (qS (qX 0 [] [] (bN)) (qR V91 (fun r=>.b r))) o) (LH a d):=by
 have e:=ZA @LH.eq_1 @bN.eq_1;unfold Er at h;simp only[ZC,LH,JV];obtain⟨c,h⟩|⟨c,h⟩:=au h
 ·obtain⟨w,x,h⟩:=ae h;try refine ZF c ?_
  refine bj (sh:=(fun v=>⟨[(1,.pt 1 0 0),(3,.i d)],[(1,.var (.agg [.lst .o 1 (a.Network.Nodes.map AV.z),.lst .o 4 (a.Network.Fibers.map (ah .o)),.lst .o 5 (a.Lights.map (ai .o))]))]⟩)) (q:=(qR V91 (fun r=>.b r))) (o:=w) ?_ (fun j1 hv=>?_) (fun k1 hv e τ hne hq=>?_)
  ·replace h:=x;obtain⟨y,a1,h⟩:=ae h;try refine ZF c ?_
   refine aJ (sh:=(fun v=>⟨[(1,.pt 1 0 0),(3,.i d),(50,.b v)],[(1,.var (.agg [.lst .o 1 (a.Network.Nodes.map AV.z),.lst .o 4 (a.Network.Fibers.map (ah .o)),.lst .o 5 (a.Lights.map (ai .o))]))]⟩)) (s:=y) ?_ ?_
   ·replace h:=a1;obtain⟨l1,b1,h⟩:=ae h;obtain⟨m1,c1,h⟩:=ae h;have f:=ZA c (aP b1);refine ZF f ?_;refine ZSG f (w_fg _ _ c1) ?_;obtain⟨g,h⟩|⟨g,h⟩:=au h
    ·cases h;exact ZL (ZA f g) trivial
    ·obtain⟨j,h⟩|⟨j,h⟩:=au h
     ·obtain⟨p1,d1,h⟩:=ae h;cases h;exact ZL (ZA f (ZA g (ZA j (aP d1)))) trivial
     ·cases h;exact ZL (ZA f (ZA g j)) trivial
   ·simp only[ZC,Tm];obtain⟨k,h⟩|⟨k,h⟩:=au h
    ·cases h;exact ZL (ZA c k) @V91.eq_1
    ·obtain⟨l,m,h⟩:=ae h;try refine ZF (ZA c k) ?_
     first|refine nG (o:=l) (bq cy (aG (w_r a d) m ?_)) (fun g1 hv τ p=>?_) (fun i1 hv e τ hne hq=>?_)|refine uV (o:=l) cy (aG (w_r a d) m ?_) (fun g1 hv τ p=>?_) (fun i1 hv e τ hne hq=>?_)
     ·exact ZK (ZA @S_r.eq_1 @PM.eq_1)
     ·subst hv;simp only[] at h;cases h;try refine ZF trivial ?_
      refine⟨rfl,Shp.sub p (by decide) (by decide) ?_⟩;exact ZK @PM.eq_1
     ·subst hv;simp only[] at h;obtain⟨rfl,t⟩:=hq;cases h;try refine ZF trivial ?_
      first|exact⟨by simp,t⟩|exact⟨by simp,rfl,t⟩
  ·subst hv;simp only[] at h;simp only[ZC,Ts];cases h;exact ZL c e
  ·subst hv;simp only[] at h;obtain⟨rfl,u⟩:=hq;cases h;try refine ZF trivial ?_
   first|exact⟨by simp,u⟩|exact⟨by simp,rfl,u⟩
 ·cases h;exact ZL c e
theorem w_dd(a:aK){r:Bool}(h:xZ a=some r):Ok Tryz.prog 74 [.agg [.lst .o 1 (a.Network.Nodes.map AV.z),.lst .o 4 (a.Network.Fibers.map (ah .o)),.lst .o 5 (a.Lights.map (ai .o))]] (.b r):=by
 refine ax aY m74 rfl ?_;unfold xZ at h;simp only[ZC,A74,V91,aB];obtain⟨g,i,h⟩:=ae h;try refine ZF trivial ?_
 refine aJ (sh:=(fun v=>⟨[(1,.pt 1 0 0),(14,.b v)],[(1,.var (.agg [.lst .o 1 (a.Network.Nodes.map AV.z),.lst .o 4 (a.Network.Fibers.map (ah .o)),.lst .o 5 (a.Lights.map (ai .o))]))]⟩)) (s:=g) ?_ ?_
 ·replace h:=i;obtain⟨p,j,h⟩:=ae h;refine ZF trivial ?_;refine ZSG trivial (VR _ j) ?_;obtain⟨d,h⟩|⟨d,h⟩:=au h
  ·cases h;exact ZL d trivial
  ·cases h;exact ZL d trivial
 ·simp only[ZC,Tl];obtain⟨c,h⟩|⟨c,h⟩:=au h
  ·cases h;exact ZL c @V91.eq_1
  ·obtain⟨k,l,h⟩:=ae h;try refine ZF c ?_
   refine bj (o:=k) (bq cy (aG (w_bk a) l ?_)) (fun q hv=>?_) (fun t hv e τ hne hq=>?_)
   ·exact ZK (ZA @LH.eq_1 @bN.eq_1)
   ·subst hv;simp only[] at h;simp only[ZC,bN,Ty];cases h;exact ZL c @V91.eq_1
   ·subst hv;simp only[] at h;obtain⟨rfl,m⟩:=hq;cases h;exact m
def Ky(a:List Int)(b:Int)(c:Int)(v:Int):St:=⟨[(0,.lst .o 1 (a.map AV.i)),(1,.i b),(2,.i c),(7,.i v)],[]⟩
theorem w_bh(c:List Int)(d:Int)(g:Int)(k:Int)(o:Int⊕(Unit⊕Bool))(h:EV c d g k=some o):AWP (OkS Tryz.prog) xy (qL [0,1,2,7] [] (Ky c d g) (qS (qX 0 [] [] (bN)) (qR eI (fun r=>.b r))) o) (Ky c d g k):=by
 have e:=ZA @Ky.eq_1 @bN.eq_1;unfold EV at h;simp only[ZC,Ky,xy];obtain⟨a,h⟩|⟨a,h⟩:=au h
 ·obtain⟨p,q,h⟩:=ae h;try refine ZF a ?_
  refine aJ (sh:=(fun v=>⟨[(0,.lst .o 1 (c.map AV.i)),(1,.i d),(2,.i g),(7,.i k),(37,.b v)],[]⟩)) (s:=p) ?_ ?_
  ·replace h:=q;obtain⟨x,t,h⟩:=ae h;obtain⟨y,u,h⟩:=ae h;have f:=ZA a (aP t);refine ZF f ?_;refine ZSG f (w_d _ _ _ u) ?_;obtain⟨j,h⟩|⟨j,h⟩:=au h
   ·cases h;exact ZL (ZA f j) trivial
   ·obtain⟨l,h⟩|⟨l,h⟩:=au h
    ·obtain⟨z,w,h⟩:=ae h;cases h;exact ZL (ZA f (ZA j (ZA l (aP w)))) trivial
    ·cases h;exact ZL (ZA f (ZA j l)) trivial
  ·simp only[ZC,NY];obtain⟨m,h⟩|⟨m,h⟩:=au h
   ·cases h;exact ZL (ZA a m) @eI.eq_1
   ·cases h;exact ZL (ZA a m) e
 ·cases h;exact ZL a e
theorem w_fc(a:List Int)(c:Int)(d:Int){r:Bool}(h:Ko a c d=some r):Ok Tryz.prog 121 [.lst .o 1 (a.map AV.i),.i c,.i d] (.b r):=by
 refine ax aY m121 rfl ?_;unfold Ko at h;simp only[ZC,A121,eI,aB];obtain⟨g,j,h⟩:=ae h;try refine ZF trivial ?_
 refine bj (o:=g) (bq cy (aG (w_bh a c d) j ?_)) (fun l hv=>?_) (fun m hv e τ hne hq=>?_)
 ·exact ZK (ZA @Ky.eq_1 @bN.eq_1)
 ·subst hv;simp only[] at h;simp only[ZC,bN,KJ];cases h;exact ZL trivial @eI.eq_1
 ·subst hv;simp only[] at h;obtain⟨rfl,k⟩:=hq;cases h;exact k
def Ip(a:List aq)(b:Int)(v:Int):St:=⟨[(0,.lst .o 5 (a.map (ai .o))),(1,.i b),(5,.i v)],[]⟩
theorem w_bn(b:List aq)(c:Int)(g:Int)(o:Int⊕(Unit⊕Int))(h:FN b c g=some o):AWP (OkS Tryz.prog) zO (qL [0,1,5] [] (Ip b c) (qS (qX 0 [] [] (bN)) (qR V85 (fun r=>.i r))) o) (Ip b c g):=by
 have e:=ZA @Ip.eq_1 @bN.eq_1;unfold FN at h;simp only[ZC,Ip,zO];obtain⟨a,h⟩|⟨a,h⟩:=au h
 ·obtain⟨k,j,h⟩:=ae h;obtain⟨d,h⟩|⟨d,h⟩:=au h
  ·cases h;exact ZL (ZA a (ZA (aP j) d)) @V85.eq_1
  ·cases h;exact ZL (ZA a (ZA (aP j) d)) e
 ·cases h;exact ZL a e
theorem UF(a:List aq)(b:Int){r:Int}(h:yB a b=some r):Ok Tryz.prog 115 [.lst .o 5 (a.map (ai .o)),.i b] (.i r):=by
 refine ax aY m115 rfl ?_;unfold yB at h;simp only[ZC,A115,V85,aB];obtain⟨c,d,h⟩:=ae h;try refine ZF trivial ?_
 refine bj (o:=c) (bq cy (aG (w_bn a b) d ?_)) (fun j hv=>?_) (fun k hv e τ hne hq=>?_)
 ·exact ZK (ZA @Ip.eq_1 @bN.eq_1)
 ·subst hv;simp only[] at h;simp only[ZC,bN,Hw];cases h;exact ZL trivial @V85.eq_1
 ·subst hv;simp only[] at h;obtain⟨rfl,g⟩:=hq;cases h;exact g
theorem w_ic(a:af)(b:ar){r:List Int}(h:PK a b=some r):Ok Tryz.prog 179 [.agg [.lst .o 1 (a.Nodes.map AV.z),.lst .o 4 (a.Fibers.map (ah .o))],.agg [.i b.Start,.lst .o 1 (b.Fibers.map AV.i)]] (.lst .u 1 (r.map AV.i)):=by
 refine ax aY m179 rfl ?_;unfold PK at h;simp only[ZC,A179,V85,aB];obtain⟨d,c,h⟩:=ae h;refine ZF trivial ?_;refine ZUG trivial (w_ds _ _ c) ?_;cases h;exact ZL trivial @V85.eq_1
theorem WE(a:af)(b:ar){r:Int}(h:yx a b=some r):Ok Tryz.prog 126 [.agg [.lst .o 1 (a.Nodes.map AV.z),.lst .o 4 (a.Fibers.map (ah .o))],.agg [.i b.Start,.lst .o 1 (b.Fibers.map AV.i)]] (.i r):=by
 refine ax aY m126 rfl ?_;unfold yx at h;simp only[ZC,A126,V85,aB];obtain⟨j,c,h⟩:=ae h;refine ZF trivial ?_;refine ZUG trivial (w_ic _ _ c) ?_;obtain⟨k,d,h⟩:=ae h;obtain⟨l,g,h⟩:=ae h;cases h;exact ZL (ZA (bf d) g) @V85.eq_1
def Dw(a:aj)(v:Int):St:=⟨[(1,.pt 1 0 0),(3,.pt 3 0 0),(4,.i v)],[(1,.var (.agg [.lst .o 1 (a.Plan.Network.Nodes.map AV.z),.lst .o 4 (a.Plan.Network.Fibers.map (ah .o)),.lst .o 5 (a.Plan.Lights.map (ai .o)),.lst .o 5 (a.Home.map (ai .o)),.lst .o 1 (a.Down.map AV.i)])),(3,.var (.agg [.lst .o 1 (a.Plan.Network.Nodes.map AV.z),.lst .o 4 (a.Plan.Network.Fibers.map (ah .o))]))]⟩
theorem w_ba(a:aj)(d:Int)(o:Int⊕(Unit⊕Bool))(h:FP a d=some o):AWP (OkS Tryz.prog) Km (qL [1,3,4] [1,3] (Dw a) (qS (qX 0 [] [] (bN)) (qR V91 (fun r=>.b r))) o) (Dw a d):=by
 unfold FP at h;simp only[ZC,Dw,Km];obtain⟨g,h⟩|⟨g,h⟩:=au h
 ·obtain⟨c,q,h⟩:=ae h;obtain⟨t,u,h⟩:=ae h;have f:=ZA g (aP q);refine ZF f ?_;refine ZSG f (UF _ _ u) ?_;obtain⟨w,x,h⟩:=ae h;try refine ZF f ?_
  refine aJ (sh:=(fun v=>⟨[(1,.pt 1 0 0),(3,.pt 3 0 0),(4,.i d),(5,.pt 5 0 0),(6,.i t),(60,.b v)],[(1,.var (.agg [.lst .o 1 (a.Plan.Network.Nodes.map AV.z),.lst .o 4 (a.Plan.Network.Fibers.map (ah .o)),.lst .o 5 (a.Plan.Lights.map (ai .o)),.lst .o 5 (a.Home.map (ai .o)),.lst .o 1 (a.Down.map AV.i)])),(3,.var (.agg [.lst .o 1 (a.Plan.Network.Nodes.map AV.z),.lst .o 4 (a.Plan.Network.Fibers.map (ah .o))])),(5,.var (.agg [.i c.Id,.i c.Route.Start,.lst .o 1 (c.Route.Fibers.map AV.i),.i c.Block.First,.i c.Block.Count]))]⟩)) (s:=w) ?_ ?_
  ·replace h:=x;obtain⟨j,h⟩|⟨j,h⟩:=au h
   ·cases h;exact ZL (ZA f j) trivial
   ·obtain⟨i1,y,h⟩:=ae h;have f:=ZA f j;refine ZF f ?_;refine ZSG f (Sw _ _ y) ?_;cases h;exact ZL f trivial
  ·simp only[ZC,SN];obtain⟨k,h⟩|⟨k,h⟩:=au h
   ·cases h;exact ZL (ZA f k) @V91.eq_1
   ·obtain⟨j1,a1,h⟩:=ae h;obtain⟨b1,c1,h⟩:=ae h;have f:=ZA f (ZA k (aP a1));try refine ZF f ?_
    refine aJ (sh:=(fun v=>⟨[(1,.pt 1 0 0),(3,.pt 3 0 0),(4,.i d),(92,.b v)],[(1,.var (.agg [.lst .o 1 (a.Plan.Network.Nodes.map AV.z),.lst .o 4 (a.Plan.Network.Fibers.map (ah .o)),.lst .o 5 (a.Plan.Lights.map (ai .o)),.lst .o 5 (a.Home.map (ai .o)),.lst .o 1 (a.Down.map AV.i)])),(3,.var (.agg [.lst .o 1 (a.Plan.Network.Nodes.map AV.z),.lst .o 4 (a.Plan.Network.Fibers.map (ah .o))]))]⟩)) (s:=b1) ?_ ?_
    ·replace h:=c1;obtain⟨l,h⟩|⟨l,h⟩:=au h
     ·cases h;exact ZL (ZA f l) trivial
     ·obtain⟨k1,d1,h⟩:=ae h;have f:=ZA f l;refine ZF f ?_;refine ZSG f (WE _ _ d1) ?_;obtain⟨l1,g1,h⟩:=ae h;refine ZF f ?_;refine ZSG f (WE _ _ g1) ?_;obtain⟨m,h⟩|⟨m,h⟩:=au h
      ·cases h;exact ZL (ZA f m) trivial
      ·cases h;exact ZL (ZA f m) trivial
    ·simp only[ZC,SW];obtain⟨p,h⟩|⟨p,h⟩:=au h
     ·cases h;exact ZL (ZA f p) @V91.eq_1
     ·cases h;exact ZL (ZA f p) (ZA @Dw.eq_1 @bN.eq_1)
 ·cases h;exact ZL g (ZA @Dw.eq_1 @bN.eq_1)
theorem w_ef(a:aj){r:Bool}(h:CQ a=some r):Ok Tryz.prog 61 [.agg [.lst .o 1 (a.Plan.Network.Nodes.map AV.z),.lst .o 4 (a.Plan.Network.Fibers.map (ah .o)),.lst .o 5 (a.Plan.Lights.map (ai .o)),.lst .o 5 (a.Home.map (ai .o)),.lst .o 1 (a.Down.map AV.i)]] (.b r):=by
 refine ax aY m61 rfl ?_;unfold CQ at h;simp only[ZC,A61,V91,aB];obtain⟨j,k,h⟩:=ae h;try refine ZF trivial ?_
 refine aJ (sh:=(fun v=>⟨[(1,.pt 1 0 0),(3,.pt 3 0 0),(32,.b v)],[(1,.var (.agg [.lst .o 1 (a.Plan.Network.Nodes.map AV.z),.lst .o 4 (a.Plan.Network.Fibers.map (ah .o)),.lst .o 5 (a.Plan.Lights.map (ai .o)),.lst .o 5 (a.Home.map (ai .o)),.lst .o 1 (a.Down.map AV.i)])),(3,.var (.agg [.lst .o 1 (a.Plan.Network.Nodes.map AV.z),.lst .o 4 (a.Plan.Network.Fibers.map (ah .o))]))]⟩)) (s:=j) ?_ ?_
 ·replace h:=k;obtain⟨w,l,h⟩:=ae h;refine ZF trivial ?_;refine ZSG trivial (w_dd _ l) ?_;obtain⟨c,h⟩|⟨c,h⟩:=au h
  ·cases h;exact ZL c trivial
  ·obtain⟨x,m,h⟩:=ae h;refine ZF c ?_;refine ZSG c (w_dd _ m) ?_;obtain⟨g,h⟩|⟨g,h⟩:=au h
   ·cases h;exact ZL (ZA c g) trivial
   ·obtain⟨y,p,h⟩:=ae h;have f:=ZA c g;refine ZF f ?_;refine ZSG f (w_fc _ _ _ p) ?_;cases h;exact ZL f trivial
 ·simp only[ZC,TE];obtain⟨d,h⟩|⟨d,h⟩:=au h
  ·cases h;exact ZL d @V91.eq_1
  ·obtain⟨q,t,h⟩:=ae h;try refine ZF d ?_
   refine bj (o:=q) (bq cy (aG (w_ba a) t ?_)) (fun a1 hv=>?_) (fun b1 hv e τ hne hq=>?_)
   ·exact ZK (ZA @Dw.eq_1 @bN.eq_1)
   ·subst hv;simp only[] at h;simp only[ZC,bN,SI];cases h;exact ZL d @V91.eq_1
   ·subst hv;simp only[] at h;obtain⟨rfl,u⟩:=hq;cases h;exact u
def Ki(a:aK)(b:Int)(v:Int):St:=⟨[(1,.i b),(2,.pt 2 0 0),(5,.i v)],[(2,.var (.agg [.lst .o 1 (a.Network.Nodes.map AV.z),.lst .o 4 (a.Network.Fibers.map (ah .o)),.lst .o 5 (a.Lights.map (ai .o))]))]⟩
theorem w_bo(b:aK)(c:Int)(g:Int)(o:Int⊕(Unit⊕Int))(h:Ey b c g=some o):AWP (OkS Tryz.prog) Ai (qL [1,2,5] [2] (Ki b c) (qS (qX 0 [] [] (bN)) (qR V85 (fun r=>.i r))) o) (Ki b c g):=by
 have e:=ZA @Ki.eq_1 @bN.eq_1;unfold Ey at h;simp only[ZC,Ki,Ai];obtain⟨a,h⟩|⟨a,h⟩:=au h
 ·obtain⟨k,j,h⟩:=ae h;obtain⟨d,h⟩|⟨d,h⟩:=au h
  ·cases h;exact ZL (ZA a (ZA (aP j) d)) @V85.eq_1
  ·cases h;exact ZL (ZA a (ZA (aP j) d)) e
 ·cases h;exact ZL a e
theorem w_eg(a:aK)(b:Int){r:Int}(h:Eb a b=some r):Ok Tryz.prog 116 [.agg [.lst .o 1 (a.Network.Nodes.map AV.z),.lst .o 4 (a.Network.Fibers.map (ah .o)),.lst .o 5 (a.Lights.map (ai .o))],.i b] (.i r):=by
 refine ax aY m116 rfl ?_;unfold Eb at h;simp only[ZC,A116,V85,aB];obtain⟨c,d,h⟩:=ae h;try refine ZF trivial ?_
 refine bj (o:=c) (bq cy (aG (w_bo a b) d ?_)) (fun j hv=>?_) (fun k hv e τ hne hq=>?_)
 ·exact ZK (ZA @Ki.eq_1 @bN.eq_1)
 ·subst hv;simp only[] at h;simp only[ZC,bN,NK];cases h;exact ZL trivial @V85.eq_1
 ·subst hv;simp only[] at h;obtain⟨rfl,g⟩:=hq;cases h;exact g
def S_e(a:aK)(b:Int)(v:Int×Int):St:=⟨[(1,.i b),(2,.pt 2 0 0),(5,.i v.1),(6,.i v.2)],[(2,.var (.agg [.lst .o 1 (a.Network.Nodes.map AV.z),.lst .o 4 (a.Network.Fibers.map (ah .o)),.lst .o 5 (a.Lights.map (ai .o))]))]⟩
def lL(v:Int):St:=⟨[(5,.i v)],[]⟩
theorem w_e(a:aK)(b:Int)(g:Int×Int)(o:(Int×Int)⊕Int)(h:M_e a b g=some o):AWP (OkS Tryz.prog) Ac (qL [1,2,5,6] [2] (S_e a b) (qX 0 [5] [] (lL)) o) (S_e a b g):=by
 have e:=ZA @S_e.eq_1 @lL.eq_1;unfold M_e at h;simp only[ZC,S_e,Ac];obtain⟨c,h⟩|⟨c,h⟩:=au h
 ·obtain⟨l,i,h⟩:=ae h;obtain⟨m,j,h⟩:=ae h;have f:=ZA c (aP i);refine ZF f ?_;refine ZSG f (Mb _ _ j) ?_;obtain⟨d,h⟩|⟨d,h⟩:=au h
  ·obtain⟨p,k,h⟩:=ae h;have f:=ZA f d;refine ZF f ?_;refine ZSG f (IQ _ k) ?_;cases h;exact ZL f e
  ·cases h;exact ZL (ZA f d) e
 ·cases h;exact ZL c e
theorem w_fm(a:aK)(b:Int){r:Int}(h:Ho a b=some r):Ok Tryz.prog 200 [.agg [.lst .o 1 (a.Network.Nodes.map AV.z),.lst .o 4 (a.Network.Fibers.map (ah .o)),.lst .o 5 (a.Lights.map (ai .o))],.i b] (.i r):=by
 refine ax aY m200 rfl ?_;unfold Ho at h;simp only[ZC,A200,V85,aB];obtain⟨d,c,h⟩:=ae h;try refine ZF trivial ?_
 refine aJ (bn (aG (w_e a b) c ?_)) ?_
 ·exact ZK (ZA @S_e.eq_1 @lL.eq_1)
 ·simp only[ZC,lL,Kw];cases h;exact ZL trivial @V85.eq_1
def NE(a:aK)(b:ar)(v:Int×Int):St:=⟨[(2,.pt 2 0 0),(3,.pt 3 0 0),(5,.i v.1),(6,.i v.2)],[(2,.var (.agg [.lst .o 1 (a.Network.Nodes.map AV.z),.lst .o 4 (a.Network.Fibers.map (ah .o)),.lst .o 5 (a.Lights.map (ai .o))])),(3,.var (.agg [.i b.Start,.lst .o 1 (b.Fibers.map AV.i)]))]⟩
theorem w_az(a:aK)(b:ar)(d:Int×Int)(o:(Int×Int)⊕Int)(h:Ag a b d=some o):AWP (OkS Tryz.prog) zf (qL [2,3,5,6] [2,3] (NE a b) (qX 0 [5] [] (lL)) o) (NE a b d):=by
 have e:=ZA @NE.eq_1 @lL.eq_1;unfold Ag at h;simp only[ZC,NE,zf];obtain⟨c,h⟩|⟨c,h⟩:=au h
 ·obtain⟨j,g,h⟩:=ae h;obtain⟨k,i,h⟩:=ae h;have f:=ZA c (aP g);refine ZF f ?_;refine ZSG f (w_fm _ _ i) ?_;cases h;exact ZL f e
 ·cases h;exact ZL c e
theorem w_de(a:aK)(b:ar){r:Int}(h:zZ a b=some r):Ok Tryz.prog 166 [.agg [.lst .o 1 (a.Network.Nodes.map AV.z),.lst .o 4 (a.Network.Fibers.map (ah .o)),.lst .o 5 (a.Lights.map (ai .o))],.agg [.i b.Start,.lst .o 1 (b.Fibers.map AV.i)]] (.i r):=by
 refine ax aY m166 rfl ?_;unfold zZ at h;simp only[ZC,A166,V85,aB];obtain⟨d,c,h⟩:=ae h;try refine ZF trivial ?_
 refine aJ (bn (aG (w_az a b) c ?_)) ?_
 ·exact ZK (ZA @NE.eq_1 @lL.eq_1)
 ·simp only[ZC,lL,Jd];cases h;exact ZL trivial @V85.eq_1
theorem w_o(a:List Int){r:List Int}(h:M_o a=some r):Ok Tryz.prog 194 [.lst .o 1 (a.map AV.i)] (.lst .u 1 (r.map AV.i)):=by
 refine ax aY m194 rfl ?_;unfold M_o at h;simp only[ZC,A194,V91,aB];obtain⟨c,b,h⟩:=ae h;cases h;exact ZL (bf b) @V91.eq_1
theorem w_do(a:ar){r:ar}(h:Cp a=some r):Ok Tryz.prog 193 [.agg [.i a.Start,.lst .o 1 (a.Fibers.map AV.i)]] (.agg [.i r.Start,.lst .u 1 (r.Fibers.map AV.i)]):=by
 refine ax aY m193 rfl ?_;unfold Cp at h;simp only[ZC,A193,V37,aB];obtain⟨c,b,h⟩:=ae h;refine ZF trivial ?_;refine ZUG trivial (w_o _ b) ?_;cases h;exact ZL trivial @V37.eq_1
theorem PX(a:aq){r:aq}(h:tU a=some r):Ok Tryz.prog 141 [.agg [.i a.Id,.i a.Route.Start,.lst .o 1 (a.Route.Fibers.map AV.i),.i a.Block.First,.i a.Block.Count]] (.agg [.i r.Id,.i r.Route.Start,.lst .u 1 (r.Route.Fibers.map AV.i),.i r.Block.First,.i r.Block.Count]):=by
 refine ax aY m141 rfl ?_;unfold tU at h;simp only[ZC,A141,me,aB];obtain⟨c,b,h⟩:=ae h;refine ZF trivial ?_;refine ZUG trivial (w_do _ b) ?_;cases h;exact ZL trivial @me.eq_1
theorem w_hi(c:af)(j:Int)(k:Int){r:Bool}(h:KO c j k=some r):Ok Tryz.prog 234 [.agg [.lst .o 1 (c.Nodes.map AV.z),.lst .o 4 (c.Fibers.map (ah .o))],.i j,.i k] (.b r):=by
 have e:=@eI.eq_1;refine ax aY m234 rfl ?_;unfold KO at h;simp only[ZC,A234,eI,aB];obtain⟨q,l,h⟩:=ae h;refine ZF trivial ?_;refine ZSG trivial (VR _ l) ?_;obtain⟨a,h⟩|⟨a,h⟩:=au h
 ·obtain⟨s,m,h⟩:=ae h;refine ZF a ?_;refine ZSG a (w_d _ _ _ m) ?_;obtain⟨d,h⟩|⟨d,h⟩:=au h
  ·obtain⟨t,p,h⟩:=ae h;have f:=ZA a d;refine ZF f ?_;refine ZSG f (w_d _ _ _ p) ?_;obtain⟨g,h⟩|⟨g,h⟩:=au h
   ·cases h;exact ZL (ZA f g) e
   ·cases h;exact ZL (ZA f g) e
  ·cases h;exact ZL (ZA a d) e
 ·cases h;exact ZL a e
def KU(a:af)(b:ar)(v:Int×Int):St:=⟨[(2,.pt 2 0 0),(3,.pt 3 0 0),(5,.i v.1),(6,.i v.2)],[(2,.var (.agg [.lst .o 1 (a.Nodes.map AV.z),.lst .o 4 (a.Fibers.map (ah .o))])),(3,.var (.agg [.i b.Start,.lst .o 1 (b.Fibers.map AV.i)]))]⟩
theorem w_bz(a:af)(b:ar)(d:Int×Int)(o:(Int×Int)⊕Int)(h:EI a b d=some o):AWP (OkS Tryz.prog) yv (qL [2,3,5,6] [2,3] (KU a b) (qX 0 [5] [] (lL)) o) (KU a b d):=by
 have e:=ZA @KU.eq_1 @lL.eq_1;unfold EI at h;simp only[ZC,KU,yv];obtain⟨c,h⟩|⟨c,h⟩:=au h
 ·obtain⟨j,g,h⟩:=ae h;obtain⟨k,i,h⟩:=ae h;cases h;exact ZL (ZA c (ZA (aP g) (aP i))) e
 ·cases h;exact ZL c e
theorem w_ea(a:af)(b:ar){r:Int}(h:DE a b=some r):Ok Tryz.prog 271 [.agg [.lst .o 1 (a.Nodes.map AV.z),.lst .o 4 (a.Fibers.map (ah .o))],.agg [.i b.Start,.lst .o 1 (b.Fibers.map AV.i)]] (.i r):=by
 refine ax aY m271 rfl ?_;unfold DE at h;simp only[ZC,A271,V85,aB];obtain⟨d,c,h⟩:=ae h;try refine ZF trivial ?_
 refine aJ (bn (aG (w_bz a b) c ?_)) ?_
 ·exact ZK (ZA @KU.eq_1 @lL.eq_1)
 ·simp only[ZC,lL,HF];cases h;exact ZL trivial @V85.eq_1
theorem PA(c:Int){r:Int}(h:vq c=some r):Ok Tryz.prog 272 [.i c] (.i r):=by
 refine ax aY m272 rfl ?_;unfold vq at h;simp only[ZC,A272,V91,aB];obtain⟨a,h⟩|⟨a,h⟩:=au h
 ·cases h;exact ZL a @V91.eq_1
 ·obtain⟨b,h⟩|⟨b,h⟩:=au h
  ·cases h;exact ZL (ZA a b) @V91.eq_1
  ·cases h;exact ZL (ZA a b) @V91.eq_1
def HQ(a:ar)(b:ar)(v:Int):St:=⟨[(4,.pt 4 0 0),(5,.pt 5 0 0),(9,.i v)],[(4,.var (.agg [.i a.Start,.lst .o 1 (a.Fibers.map AV.i)])),(5,.var (.agg [.i b.Start,.lst .o 1 (b.Fibers.map AV.i)]))]⟩
def Bm(a:ar)(b:ar)(v:Unit):St:=⟨[(4,.pt 4 0 0),(5,.pt 5 0 0)],[(4,.var (.agg [.i a.Start,.lst .o 1 (a.Fibers.map AV.i)])),(5,.var (.agg [.i b.Start,.lst .o 1 (b.Fibers.map AV.i)]))]⟩
theorem w_ai(a:ar)(b:ar)(g:Int)(o:Int⊕(Unit⊕Int))(h:EP a b g=some o):AWP (OkS Tryz.prog) xU (qL [4,5,9] [4,5] (HQ a b) (qS (qX 0 [4,5] [4,5] (Bm a b)) (qR eI (fun r=>.i r))) o) (HQ a b g):=by
 have e:=ZA @HQ.eq_1 @Bm.eq_1;unfold EP at h;simp only[ZC,HQ,xU];obtain⟨c,h⟩|⟨c,h⟩:=au h
 ·obtain⟨m,j,h⟩:=ae h;obtain⟨p,k,h⟩:=ae h;obtain⟨d,h⟩|⟨d,h⟩:=au h
  ·obtain⟨q,l,h⟩:=ae h;have f:=ZA c (ZA (aP j) (ZA (aP k) d));refine ZF f ?_;refine ZSG f (PA _ l) ?_;cases h;exact ZL f @eI.eq_1
  ·cases h;exact ZL (ZA c (ZA (aP j) (ZA (aP k) d))) e
 ·cases h;exact ZL c e
theorem w_eb(d:af)(b:ar)(c:ar){r:Int}(h:DY d b c=some r):Ok Tryz.prog 267 [.agg [.lst .o 1 (d.Nodes.map AV.z),.lst .o 4 (d.Fibers.map (ah .o))],.agg [.i b.Start,.lst .o 1 (b.Fibers.map AV.i)],.agg [.i c.Start,.lst .o 1 (c.Fibers.map AV.i)]] (.i r):=by
 refine ax aY m267 rfl ?_;unfold DY at h;simp only[ZC,A267,eI,aB];obtain⟨u,j,h⟩:=ae h;refine ZF trivial ?_;refine ZSG trivial (w_ea _ _ j) ?_;obtain⟨v,k,h⟩:=ae h;refine ZF trivial ?_;refine ZSG trivial (w_ea _ _ k) ?_;obtain⟨a,h⟩|⟨a,h⟩:=au h
 ·obtain⟨w,l,h⟩:=ae h;refine ZF a ?_;refine ZSG a (PA _ l) ?_;cases h;exact ZL a @eI.eq_1
 ·obtain⟨g,h⟩|⟨g,h⟩:=au h
  ·obtain⟨x,m,h⟩:=ae h;have f:=ZA a g;refine ZF f ?_;refine ZSG f (PA _ m) ?_;cases h;exact ZL f @eI.eq_1
  ·obtain⟨p,q,h⟩:=ae h;have f:=ZA a g;try refine ZF f ?_
   refine bj (o:=p) (bq cy (aG (w_ai b c) q ?_)) (fun y hv=>?_) (fun a1 hv e τ hne hq=>?_)
   ·exact ZK (ZA @HQ.eq_1 @Bm.eq_1)
   ·subst hv;simp only[] at h;simp only[ZC,Bm,Jo];obtain⟨b1,s,h⟩:=ae h;refine ZF f ?_;refine ZSG f (PA _ s) ?_;cases h;exact ZL f @eI.eq_1
   ·subst hv;simp only[] at h;obtain⟨rfl,t⟩:=hq;cases h;exact t
def uj(a:ar)(c:List ByteArray)(d:List ay)(g:Int)(b:List ar)(v:Int):St:=⟨[(0,.pt 1000000000 0 0),(3,.pt 3 0 0),(4,.i v)],[(3,.var (.agg [.i ((a).Start),.lst .m 1 (((a).Fibers).map AV.i)])),(1000000000,.var (.agg [.lst .o 1 (c.map AV.z),.lst .o 4 (d.map (ah .o)),.i g,.sl 1000000001 0 b.length])),(1000000001,.arr 2 (b.map (aA .u)))]⟩
theorem w_bf(a:ar)(b:List ByteArray)(c:List ay)(g:Int)(d:List ar)(k:Int)(o:Int⊕Int)(h:UC a b c d k=some o):AWP (OkS Tryz.prog) rl (qL [0,3,4] [3,1000000000,1000000001] (uj a b c g d) (qX 0 [0,3,4] [3,1000000000,1000000001] (uj a b c g d)) o) (uj a b c g d k):=by
 have e:=ZA @uj.eq_1 @uj.eq_1;unfold UC at h;simp only[ZC,uj,rl];obtain⟨i,h⟩|⟨i,h⟩:=au h
 ·obtain⟨q,l,h⟩:=ae h;obtain⟨s,m,h⟩:=ae h;obtain⟨t,p,h⟩:=ae h;have f:=ZA i (ZA (bf l) m);refine ZF f ?_;refine ZSG f (w_eb _ _ _ p) ?_;obtain⟨j,h⟩|⟨j,h⟩:=au h
  ·cases h;exact ZL (ZA f j) e
  ·cases h;exact ZL (ZA f j) e
 ·cases h;exact ZL i e
theorem w_ie(b:ar)(j:List ByteArray)(k:List ay)(l:Int)(a:List ar){r:List ByteArray×List ay×Int×List ar×List ar}(h:Vh b j k l a=some r):OkM Tryz.prog 257 [.pt 1000000000 0 0,.agg [.i ((b).Start),.lst .m 1 (((b).Fibers).map AV.i)]] [(1000000000,.var (.agg [.lst .o 1 (j.map AV.z),.lst .o 4 (k.map (ah .o)),.i l,.sl 1000000001 0 a.length])),(1000000001,.arr 2 (a.map (aA .u)))] (.tup []) ([(49,.arr 2 (r.2.2.2.1.map (aA .m))),(1000000000,.var (.agg [.lst .o 1 (r.1.map AV.z),.lst .o 4 (r.2.1.map (ah .o)),.i r.2.2.1,.sl 49 0 r.2.2.2.1.length])),(1000000001,.arr 2 (r.2.2.2.2.map (aA .u)))]):=by
 refine bJ (lr:=[49,1000000000,1000000001]) aY Vw rfl rfl ?_;unfold Vh at h;simp only[ZC,Hb,co];obtain⟨p,d1,h⟩:=ae h;try refine ZF trivial ?_
 refine aJ (bn (aG (w_bf b j k l a) d1 ?_)) ?_
 ·exact ZK (ZA @uj.eq_1 @uj.eq_1)
 ·simp only[ZC,uj,wG];obtain⟨w1,g1,h⟩:=ae h;obtain⟨q,i1,h⟩:=bl h;have j1:sub (a.map (aA .u)) 0 (Int.toNat p)=q.map (aA .u):=by rw[dy,i1]
  obtain⟨y1,k1,h⟩:=ae h;obtain⟨s,c,h⟩:=bl h;have l1:Row.arr 2 [(.agg [.i ((b).Start),.lst .m 1 (((b).Fibers).map AV.i)]:AV)]=Row.arr 2 (s.map (aA .m)):=by rw[<-c];rfl
  have w:s.length=1:=by rw[<-c];rfl
  obtain⟨z1,m1,h⟩:=ae h;have x:=bf m1;obtain⟨d,g,h⟩:=bl h;have p1:q.map (aA .m)++s.map (aA .m)=d.map (aA .m):=by rw[<-g,List.map_append]
  have y:q.length+1=d.length:=by simp[<-c,<-g]<;>omega
  rw[y] at x;obtain⟨a2,q1,h⟩:=ae h;obtain⟨t,s1,h⟩:=bl h;have t1:sub (a.map (aA .u)) (Int.toNat p) (a.length-(Int.toNat p))=t.map (aA .u):=by rw[dy,s1]
  obtain⟨b2,u1,h⟩:=ae h;have a1:=bf u1;obtain⟨b1,v,h⟩:=bl h;have v1:d.map (aA .m)++t.map (aA .m)=b1.map (aA .m):=by rw[<-v,List.map_append]
  have c1:d.length+t.length=b1.length:=by simp[<-c,<-g,<-v]<;>omega
  rw[c1] at a1;cases h;exact ZL (ZA (bf g1) (ZA j1 (ZA (bf k1) (ZA l1 (ZA w (ZA x (ZA p1 (ZA y (ZA (bf q1) (ZA t1 (ZA a1 (ZA v1 c1)))))))))))) (ZA @co.eq_1 (ZA c.symm (ZA g.symm (ZA v.symm w))))
def uo(a:ar)(c:List ByteArray)(d:List ay)(g:Int)(b:List ar)(v:Int):St:=⟨[(0,.pt 1000000000 0 0),(3,.pt 3 0 0),(4,.i v)],[(3,.var (.agg [.i ((a).Start),.lst .m 1 (((a).Fibers).map AV.i)])),(1000000000,.var (.agg [.lst .o 1 (c.map AV.z),.lst .o 4 (d.map (ah .o)),.i g,.sl 1000000001 0 b.length])),(1000000001,.arr 2 (b.map (aA .m)))]⟩
theorem w_ao(a:ar)(b:List ByteArray)(c:List ay)(g:Int)(d:List ar)(k:Int)(o:Int⊕Int)(h:Fi a b c d k=some o):AWP (OkS Tryz.prog) pB (qL [0,3,4] [3,1000000000,1000000001] (uo a b c g d) (qX 0 [0,3,4] [3,1000000000,1000000001] (uo a b c g d)) o) (uo a b c g d k):=by
 have e:=ZA @uo.eq_1 @uo.eq_1;unfold Fi at h;simp only[ZC,uo,pB];obtain⟨i,h⟩|⟨i,h⟩:=au h
 ·obtain⟨q,l,h⟩:=ae h;obtain⟨s,m,h⟩:=ae h;obtain⟨t,p,h⟩:=ae h;have f:=ZA i (ZA (bf l) m);refine ZF f ?_;refine ZSG f (w_eb _ _ _ p) ?_;obtain⟨j,h⟩|⟨j,h⟩:=au h
  ·cases h;exact ZL (ZA f j) e
  ·cases h;exact ZL (ZA f j) e
 ·cases h;exact ZL i e
theorem w_ew(b:ar)(j:List ByteArray)(k:List ay)(l:Int)(a:List ar){r:List ByteArray×List ay×Int×List ar×List ar}(h:Gs b j k l a=some r):OkM Tryz.prog 257 [.pt 1000000000 0 0,.agg [.i ((b).Start),.lst .m 1 (((b).Fibers).map AV.i)]] [(1000000000,.var (.agg [.lst .o 1 (j.map AV.z),.lst .o 4 (k.map (ah .o)),.i l,.sl 1000000001 0 a.length])),(1000000001,.arr 2 (a.map (aA .m)))] (.tup []) ([(49,.arr 2 (r.2.2.2.1.map (aA .m))),(1000000000,.var (.agg [.lst .o 1 (r.1.map AV.z),.lst .o 4 (r.2.1.map (ah .o)),.i r.2.2.1,.sl 49 0 r.2.2.2.1.length])),(1000000001,.arr 2 (r.2.2.2.2.map (aA .m)))]):=by
 refine bJ (lr:=[49,1000000000,1000000001]) aY Um rfl rfl ?_;unfold Gs at h;simp only[ZC,FT,co];obtain⟨p,c1,h⟩:=ae h;try refine ZF trivial ?_
 refine aJ (bn (aG (w_ao b j k l a) c1 ?_)) ?_
 ·exact ZK (ZA @uo.eq_1 @uo.eq_1)
 ·simp only[ZC,uo,wT];obtain⟨v1,d1,h⟩:=ae h;obtain⟨q,g1,h⟩:=bl h;have i1:sub (a.map (aA .m)) 0 (Int.toNat p)=q.map (aA .m):=by rw[dy,g1]
  obtain⟨w1,j1,h⟩:=ae h;obtain⟨s,c,h⟩:=bl h;have k1:Row.arr 2 [(.agg [.i ((b).Start),.lst .m 1 (((b).Fibers).map AV.i)]:AV)]=Row.arr 2 (s.map (aA .m)):=by rw[<-c];rfl
  have v:s.length=1:=by rw[<-c];rfl
  obtain⟨y1,l1,h⟩:=ae h;have w:=bf l1;obtain⟨d,g,h⟩:=bl h;have m1:q.map (aA .m)++s.map (aA .m)=d.map (aA .m):=by rw[<-g,List.map_append]
  have x:q.length+1=d.length:=by simp[<-c,<-g]<;>omega
  rw[x] at w;obtain⟨z1,p1,h⟩:=ae h;obtain⟨t,q1,h⟩:=bl h;have s1:sub (a.map (aA .m)) (Int.toNat p) (a.length-(Int.toNat p))=t.map (aA .m):=by rw[dy,q1]
  obtain⟨a2,t1,h⟩:=ae h;have y:=bf t1;obtain⟨a1,u,h⟩:=bl h;have u1:d.map (aA .m)++t.map (aA .m)=a1.map (aA .m):=by rw[<-u,List.map_append]
  have b1:d.length+t.length=a1.length:=by simp[<-c,<-g,<-u]<;>omega
  rw[b1] at y;cases h;exact ZL (ZA (bf d1) (ZA i1 (ZA (bf j1) (ZA k1 (ZA v (ZA w (ZA m1 (ZA x (ZA (bf p1) (ZA s1 (ZA y (ZA u1 b1)))))))))))) (ZA @co.eq_1 (ZA c.symm (ZA g.symm (ZA u.symm v))))
def KF(b:Int)(c:List Int)(a:List Int)(d:Int)(v:Int×List ByteArray×List ay×Int×List ar):St:=⟨[(0,.pt 1000000000 0 0),(2,.sl 1000000003 0 a.length),(4,.pt 4 0 0),(6,.i d),(7,.i v.1)],[(4,.var (.agg [.i b,.lst .m 1 (c.map AV.i)])),(470000003,.arr 2 (v.2.2.2.2.map (aA .m))),(1000000000,.var (.agg [.lst .o 1 (v.2.1.map AV.z),.lst .o 4 (v.2.2.1.map (ah .o)),.i v.2.2.2.1,.sl 470000003 0 v.2.2.2.2.length])),(1000000003,.arr 1 (a.map AV.i))]⟩
def AL(a:List Int)(v:List ByteArray×List ay×Int×List ar):St:=⟨[],[(470000003,.arr 2 (v.2.2.2.map (aA .m))),(1000000000,.var (.agg [.lst .o 1 (v.1.map AV.z),.lst .o 4 (v.2.1.map (ah .o)),.i v.2.2.1,.sl 470000003 0 v.2.2.2.length])),(1000000003,.arr 1 (a.map AV.i))]⟩
theorem w_an(j:Int)(u:List ByteArray)(w:List ay)(x:Int)(p:List ar)(d:List Int)(c:List Int)(i1:Int->List ByteArray->List ay->Int->List ar->List Int->List Int->Option (List ByteArray×List ay×Int×List ar×List Int))(k:Int)(y1:∀(j:Int)(u:List ByteArray)(w:List ay)(x:Int)(p:List ar)(d:List Int)(c:List Int){r:List ByteArray×List ay×Int×List ar×List Int},i1 j u w x p d c=some r->OkM Tryz.prog 249 [.pt 1000000000 0 0,.agg [.i j,.sl 1000000002 0 d.length],.sl 1000000003 0 c.length] [(1000000000,.var (.agg [.lst .o 1 (u.map AV.z),.lst .o 4 (w.map (ah .o)),.i x,.sl 1000000001 0 p.length])),(1000000001,.arr 2 (p.map (aA .m))),(1000000002,.arr 1 (d.map AV.i)),(1000000003,.arr 1 (c.map AV.i))] (.tup []) ([(470000003,.arr 2 (r.2.2.2.1.map (aA .m))),(1000000000,.var (.agg [.lst .o 1 (r.1.map AV.z),.lst .o 4 (r.2.1.map (ah .o)),.i r.2.2.1,.sl 470000003 0 r.2.2.2.1.length])),(1000000003,.arr 1 (r.2.2.2.2.map AV.i))]))(a:Int×List ByteArray×List ay×Int×List ar)(o:(Int×List ByteArray×List ay×Int×List ar)⊕(List ByteArray×List ay×Int×List ar))(h:Ii j d c i1 k a=some o):AWP (OkS Tryz.prog) qT (qL [0,2,4,6,7] [4,470000003,1000000000,1000000003] (KF j d c k) (qX 0 [] [470000003,1000000000,1000000003] (AL c)) o) (KF j d c k a):=by
 have e:=ZA @KF.eq_1 @AL.eq_1;unfold Ii at h;simp only[ZC,KF,qT];obtain⟨z1,a2,h⟩:=ae h;try refine ZF trivial ?_
 refine aJ (sh:=(fun v=>⟨[(0,.pt 1000000000 0 0),(2,.sl 1000000003 0 c.length),(4,.pt 4 0 0),(6,.i k),(7,.i a.1),(39,.b v)],[(4,.var (.agg [.i j,.lst .m 1 (d.map AV.i)])),(470000003,.arr 2 (a.2.2.2.2.map (aA .m))),(1000000000,.var (.agg [.lst .o 1 (a.2.1.map AV.z),.lst .o 4 (a.2.2.1.map (ah .o)),.i a.2.2.2.1,.sl 470000003 0 a.2.2.2.2.length])),(1000000003,.arr 1 (c.map AV.i))]⟩)) (s:=z1) ?_ ?_
 ·replace h:=a2;obtain⟨y,h⟩|⟨y,h⟩:=au h
  ·cases h;exact ZL y trivial
  ·cases h;exact ZL y trivial
 ·simp only[ZC,vA];obtain⟨g,h⟩|⟨g,h⟩:=au h
  ·obtain⟨j1,b2,h⟩:=ae h;refine ZF g ?_;refine ZSG g (Vz _ _ _ b2) ?_;obtain⟨c2,d2,h⟩:=ae h;try refine ZF g ?_
   refine aJ (sh:=(fun v=>⟨[(0,.pt 1000000000 0 0),(2,.sl 1000000003 0 c.length),(4,.pt 4 0 0),(6,.i k),(7,.i a.1),(8,.i j1),(56,.b v)],[(4,.var (.agg [.i j,.lst .m 1 (d.map AV.i)])),(470000003,.arr 2 (a.2.2.2.2.map (aA .m))),(1000000000,.var (.agg [.lst .o 1 (a.2.1.map AV.z),.lst .o 4 (a.2.2.1.map (ah .o)),.i a.2.2.2.1,.sl 470000003 0 a.2.2.2.2.length])),(1000000003,.arr 1 (c.map AV.i))]⟩)) (s:=c2) ?_ ?_
   ·replace h:=d2;obtain⟨a1,h⟩|⟨a1,h⟩:=au h
    ·obtain⟨u2,g2,h⟩:=ae h;have f:=ZA g a1;refine ZF f ?_;refine ZSG f (Mb _ _ g2) ?_;cases h;exact ZL f trivial
    ·cases h;exact ZL (ZA g a1) trivial
   ·simp only[ZC,vy];obtain⟨b1,h⟩|⟨b1,h⟩:=au h
    ·obtain⟨k1,i2,h⟩:=ae h;have f:=ZA g b1;refine ZF f ?_;refine ZUG f (w_o _ i2) ?_;obtain⟨c1,l,h⟩:=bl h;have j2:Row.arr 1 [(.i a.1:AV)]=Row.arr 1 (c1.map AV.i):=by rw[<-l];rfl
     have l1:c1.length=1:=by rw[<-l];rfl
     obtain⟨v2,k2,h⟩:=ae h;have m1:=bf k2;obtain⟨p1,q,h⟩:=bl h;have l2:k1.map AV.i++c1.map AV.i=p1.map AV.i:=by rw[<-q,List.map_append]
     have q1:k1.length+1=p1.length:=by simp[<-l,<-q]<;>omega
     rw[q1] at m1;obtain⟨s1,m2,h⟩:=ae h;have f:=ZA f (ZA j2 (ZA l1 (ZA m1 (ZA l2 q1))));refine ZF f ?_;refine ZUG f (w_o _ m2) ?_;obtain⟨d1,t,h⟩:=bl h;have p2:Row.arr 1 [(.i j1:AV)]=Row.arr 1 (d1.map AV.i):=by rw[<-t];rfl
     have t1:d1.length=1:=by rw[<-t];rfl
     obtain⟨w2,q2,h⟩:=ae h;have u1:=bf q2;obtain⟨v1,g1,h⟩:=bl h;have s2:s1.map AV.i++d1.map AV.i=v1.map AV.i:=by rw[<-g1,List.map_append]
     have w1:s1.length+1=v1.length:=by simp[<-l,<-q,<-t,<-g1]<;>omega
     rw[w1] at u1;obtain⟨x2,t2,h⟩:=ae h;have f:=ZA f (ZA p2 (ZA t1 (ZA u1 (ZA s2 w1))));refine ZF f ?_;refine ZWG f (y1 _ _ _ _ _ _ _ t2) [470000003,1000000000,1000000003] [477300003] ?_;cases h;exact ZL f (ZA e (ZA l.symm (ZA q.symm (ZA t.symm (ZA g1.symm (ZA l1 t1))))))
    ·cases h;exact ZL (ZA g b1) e
  ·cases h;exact ZL g e
theorem Xr(l:Int->List ByteArray->List ay->Int->List ar->List Int->List Int->Option (List ByteArray×List ay×Int×List ar×List Int))(q:∀(d:Int)(g:List ByteArray)(j:List ay)(k:Int)(a:List ar)(b:List Int)(c:List Int){r:List ByteArray×List ay×Int×List ar×List Int},l d g j k a b c=some r->OkM Tryz.prog 249 [.pt 1000000000 0 0,.agg [.i d,.sl 1000000002 0 b.length],.sl 1000000003 0 c.length] [(1000000000,.var (.agg [.lst .o 1 (g.map AV.z),.lst .o 4 (j.map (ah .o)),.i k,.sl 1000000001 0 a.length])),(1000000001,.arr 2 (a.map (aA .m))),(1000000002,.arr 1 (b.map AV.i)),(1000000003,.arr 1 (c.map AV.i))] (.tup []) ([(470000003,.arr 2 (r.2.2.2.1.map (aA .m))),(1000000000,.var (.agg [.lst .o 1 (r.1.map AV.z),.lst .o 4 (r.2.1.map (ah .o)),.i r.2.2.1,.sl 470000003 0 r.2.2.2.1.length])),(1000000003,.arr 1 (r.2.2.2.2.map AV.i))]))(d:Int)(g:List ByteArray)(j:List ay)(k:Int)(a:List ar)(b:List Int)(c:List Int){r:List ByteArray×List ay×Int×List ar×List Int}(h:EE l d g j k a b c=some r):OkM Tryz.prog 249 [.pt 1000000000 0 0,.agg [.i d,.sl 1000000002 0 b.length],.sl 1000000003 0 c.length] [(1000000000,.var (.agg [.lst .o 1 (g.map AV.z),.lst .o 4 (j.map (ah .o)),.i k,.sl 1000000001 0 a.length])),(1000000001,.arr 2 (a.map (aA .m))),(1000000002,.arr 1 (b.map AV.i)),(1000000003,.arr 1 (c.map AV.i))] (.tup []) ([(470000003,.arr 2 (r.2.2.2.1.map (aA .m))),(1000000000,.var (.agg [.lst .o 1 (r.1.map AV.z),.lst .o 4 (r.2.1.map (ah .o)),.i r.2.2.1,.sl 470000003 0 r.2.2.2.1.length])),(1000000003,.arr 1 (r.2.2.2.2.map AV.i))]):=by
 refine bJ (lr:=[470000003,1000000000,1000000003]) aY Ug rfl rfl ?_;unfold EE at h;simp only[ZC,Ig,co];obtain⟨y,s,h⟩:=ae h;obtain⟨t,u,h⟩:=ae h;obtain⟨p,h⟩|⟨p,h⟩:=au h
 ·obtain⟨a1,x,h⟩:=ae h;have f:=ZA (bf s) (ZA u p);refine ZF f ?_;refine ZWG f (w_ew _ _ _ _ _ x) [49,1000000000,1000000001] [2400049] ?_;cases h;exact ZL f @co.eq_1
 ·obtain⟨b1,v,h⟩:=ae h;try refine ZF (ZA (bf s) (ZA u p)) ?_
  first|refine eu (bn (aG (w_an d g j k a b c l t q) v ?_)) (fun τ w=>?_)|refine fM (aG (w_an d g j k a b c l t q) v ?_) (fun τ w=>?_)
  ·exact ZK (ZA @KF.eq_1 @AL.eq_1)
  ·cases h;refine ky w (by decide) ?_ rfl;exact ZK (ZA @co.eq_1 @AL.eq_1)
theorem w_cl:∀(n:Nat)(d:Int)(g:List ByteArray)(j:List ay)(k:Int)(a:List ar)(b:List Int)(c:List Int){r:List ByteArray×List ay×Int×List ar×List Int}(_:ye n d g j k a b c=some r),OkM Tryz.prog 249 [.pt 1000000000 0 0,.agg [.i d,.sl 1000000002 0 b.length],.sl 1000000003 0 c.length] [(1000000000,.var (.agg [.lst .o 1 (g.map AV.z),.lst .o 4 (j.map (ah .o)),.i k,.sl 1000000001 0 a.length])),(1000000001,.arr 2 (a.map (aA .m))),(1000000002,.arr 1 (b.map AV.i)),(1000000003,.arr 1 (c.map AV.i))] ((fun(r:List ByteArray×List ay×Int×List ar×List Int)=>.tup []) r) ((fun(r:List ByteArray×List ay×Int×List ar×List Int)=>[(470000003,.arr 2 (r.2.2.2.1.map (aA .m))),(1000000000,.var (.agg [.lst .o 1 (r.1.map AV.z),.lst .o 4 (r.2.1.map (ah .o)),.i r.2.2.1,.sl 470000003 0 r.2.2.2.1.length])),(1000000003,.arr 1 (r.2.2.2.2.map AV.i))]) r)
 |0,d,g,j,k,a,b,c,_,h=>by cases h
 |n+1,d,g,j,k,a,b,c,_,h=>Xr (ye n) (w_cl n) d g j k a b c h
def Kn(b:Int)(a:List Int)(c:Int)(v:Int×List ByteArray×List ay×Int×List ar):St:=⟨[(0,.pt 1000000000 0 0),(2,.sl 1000000001 0 a.length),(4,.pt 4 0 0),(6,.i c),(7,.i v.1)],[(4,.var (.agg [.i b,.lst .m 1 []])),(470000003,.arr 2 (v.2.2.2.2.map (aA .m))),(1000000000,.var (.agg [.lst .o 1 (v.2.1.map AV.z),.lst .o 4 (v.2.2.1.map (ah .o)),.i v.2.2.2.1,.sl 470000003 0 v.2.2.2.2.length])),(1000000001,.arr 1 (a.map AV.i))]⟩
def Bv(a:List Int)(v:List ByteArray×List ay×Int×List ar):St:=⟨[],[(470000003,.arr 2 (v.2.2.2.map (aA .m))),(1000000000,.var (.agg [.lst .o 1 (v.1.map AV.z),.lst .o 4 (v.2.1.map (ah .o)),.i v.2.2.1,.sl 470000003 0 v.2.2.2.length])),(1000000001,.arr 1 (a.map AV.i))]⟩
theorem w_ar(g:Int)(d:List Int)(j:Int)(a:Int×List ByteArray×List ay×Int×List ar)(o:(Int×List ByteArray×List ay×Int×List ar)⊕(List ByteArray×List ay×Int×List ar))(h:Vj g d j a=some o):AWP (OkS Tryz.prog) pD (qL [0,2,4,6,7] [4,470000003,1000000000,1000000001] (Kn g d j) (qX 0 [] [470000003,1000000000,1000000001] (Bv d)) o) (Kn g d j a):=by
 have e:=ZA @Kn.eq_1 @Bv.eq_1;unfold Vj at h;simp only[ZC,Kn,pD];obtain⟨q1,s1,h⟩:=ae h;try refine ZF trivial ?_
 refine aJ (sh:=(fun v=>⟨[(0,.pt 1000000000 0 0),(2,.sl 1000000001 0 d.length),(4,.pt 4 0 0),(6,.i j),(7,.i a.1),(39,.b v)],[(4,.var (.agg [.i g,.lst .m 1 []])),(470000003,.arr 2 (a.2.2.2.2.map (aA .m))),(1000000000,.var (.agg [.lst .o 1 (a.2.1.map AV.z),.lst .o 4 (a.2.2.1.map (ah .o)),.i a.2.2.2.1,.sl 470000003 0 a.2.2.2.2.length])),(1000000001,.arr 1 (d.map AV.i))]⟩)) (s:=q1) ?_ ?_
 ·replace h:=s1;obtain⟨q,h⟩|⟨q,h⟩:=au h
  ·cases h;exact ZL q trivial
  ·cases h;exact ZL q trivial
 ·simp only[ZC,we];obtain⟨c,h⟩|⟨c,h⟩:=au h
  ·obtain⟨a1,t1,h⟩:=ae h;refine ZF c ?_;refine ZSG c (Vz _ _ _ t1) ?_;obtain⟨u1,v1,h⟩:=ae h;try refine ZF c ?_
   refine aJ (sh:=(fun v=>⟨[(0,.pt 1000000000 0 0),(2,.sl 1000000001 0 d.length),(4,.pt 4 0 0),(6,.i j),(7,.i a.1),(8,.i a1),(56,.b v)],[(4,.var (.agg [.i g,.lst .m 1 []])),(470000003,.arr 2 (a.2.2.2.2.map (aA .m))),(1000000000,.var (.agg [.lst .o 1 (a.2.1.map AV.z),.lst .o 4 (a.2.2.1.map (ah .o)),.i a.2.2.2.1,.sl 470000003 0 a.2.2.2.2.length])),(1000000001,.arr 1 (d.map AV.i))]⟩)) (s:=u1) ?_ ?_
   ·replace h:=v1;obtain⟨t,h⟩|⟨t,h⟩:=au h
    ·obtain⟨k2,w1,h⟩:=ae h;have f:=ZA c t;refine ZF f ?_;refine ZSG f (Mb _ _ w1) ?_;cases h;exact ZL f trivial
    ·cases h;exact ZL (ZA c t) trivial
   ·simp only[ZC,xk];obtain⟨u,h⟩|⟨u,h⟩:=au h
    ·obtain⟨b1,y1,h⟩:=ae h;have f:=ZA c u;refine ZF f ?_;refine ZUG f (w_o _ y1) ?_;obtain⟨w,k,h⟩:=bl h;have z1:Row.arr 1 [(.i a.1:AV)]=Row.arr 1 (w.map AV.i):=by rw[<-k];rfl
     have c1:w.length=1:=by rw[<-k];rfl
     obtain⟨l2,a2,h⟩:=ae h;have d1:=bf a2;obtain⟨g1,l,h⟩:=bl h;have b2:b1.map AV.i++w.map AV.i=g1.map AV.i:=by rw[<-l,List.map_append]
     have i1:b1.length+1=g1.length:=by simp[<-k,<-l]<;>omega
     rw[i1] at d1;obtain⟨j1,c2,h⟩:=ae h;have f:=ZA f (ZA z1 (ZA c1 (ZA d1 (ZA b2 i1))));refine ZF f ?_;refine ZUG f (w_o _ c2) ?_;obtain⟨x,p,h⟩:=bl h;have d2:Row.arr 1 [(.i a1:AV)]=Row.arr 1 (x.map AV.i):=by rw[<-p];rfl
     have k1:x.length=1:=by rw[<-p];rfl
     obtain⟨m2,g2,h⟩:=ae h;have l1:=bf g2;obtain⟨m1,y,h⟩:=bl h;have i2:j1.map AV.i++x.map AV.i=m1.map AV.i:=by rw[<-y,List.map_append]
     have p1:j1.length+1=m1.length:=by simp[<-k,<-l,<-p,<-y]<;>omega
     rw[p1] at l1;obtain⟨p2,j2,h⟩:=ae h;have f:=ZA f (ZA d2 (ZA k1 (ZA l1 (ZA i2 p1))));refine ZF f ?_;refine ZWG f (w_cl N0 _ _ _ _ _ _ _ j2) [470000003,1000000000,1000000003] [477300003] ?_;cases h;exact ZL f (ZA e (ZA k.symm (ZA l.symm (ZA p.symm (ZA y.symm (ZA c1 k1))))))
    ·cases h;exact ZL (ZA c u) e
  ·cases h;exact ZL c e
theorem w_ib(b:Int)(d:List ByteArray)(g:List ay)(j:Int)(a:List Int){r:List ByteArray×List ay×Int×List ar×List Int}(h:Qy b d g j a=some r):OkM Tryz.prog 249 [.pt 1000000000 0 0,.agg [.i b,.lst .u 1 []],.sl 1000000001 0 a.length] [(1000000000,.var (.agg [.lst .o 1 (d.map AV.z),.lst .o 4 (g.map (ah .o)),.i j,.lst .u 2 []])),(1000000001,.arr 1 (a.map AV.i))] (.tup []) ([(470000003,.arr 2 (r.2.2.2.1.map (aA .m))),(1000000000,.var (.agg [.lst .o 1 (r.1.map AV.z),.lst .o 4 (r.2.1.map (ah .o)),.i r.2.2.1,.sl 470000003 0 r.2.2.2.1.length])),(1000000001,.arr 1 (r.2.2.2.2.map AV.i))]):=by
 refine bJ (lr:=[470000003,1000000000,1000000001]) aY Wv rfl rfl ?_;unfold Qy at h;simp only[ZC,Lb,co];obtain⟨v,k,h⟩:=ae h;obtain⟨l,p,h⟩:=ae h;obtain⟨c,h⟩|⟨c,h⟩:=au h
 ·obtain⟨w,t,h⟩:=ae h;have f:=ZA (bf k) (ZA p c);refine ZF f ?_;refine ZWG f (w_ie _ _ _ _ _ t) [49,1000000000,1000000001] [2400049] ?_;cases h;exact ZL f @co.eq_1
 ·obtain⟨x,q,h⟩:=ae h;try refine ZF (ZA (bf k) (ZA p c)) ?_
  first|refine eu (bn (aG (w_ar b a l) q ?_)) (fun τ s=>?_)|refine fM (aG (w_ar b a l) q ?_) (fun τ s=>?_)
  ·exact ZK (ZA @Kn.eq_1 @Bv.eq_1)
  ·cases h;refine ky s (by decide) ?_ rfl;exact ZK (ZA @co.eq_1 @Bv.eq_1)
theorem w_ev(c:af)(d:Int)(k:Int){r:Bool×List ar}(h:DK c d k=some r):OkM Tryz.prog 235 [.agg [.lst .o 1 (((c).Nodes).map AV.z),.lst .o 4 (((c).Fibers).map (ah .o))],.i d,.i k] [] (.tup [.sl 6 0 r.2.length,.b r.1]) ([(6,.arr 2 (r.2.map (aA .m)))]):=by
 refine bJ (lr:=[6]) aY UQ rfl rfl ?_;unfold DK at h;simp only[ZC,GJ,fP];obtain⟨l,a,h⟩:=bl h;have p:Row.arr 1 [(.i d:AV)]=Row.arr 1 (l.map AV.i):=by rw[<-a];rfl
 have g:l.length=1:=by rw[<-a];rfl
 obtain⟨t,q,h⟩:=ae h;have f:=ZA p g;refine ZF f ?_;refine ZWG f (w_ib _ _ _ _ _ q) [470000003,1000000000,1000000001] [471900003] ?_;obtain⟨j,h⟩|⟨j,h⟩:=au h
 ·cases h;exact ZL (ZA f j) (ZA @fP.eq_1 (ZA a.symm g))
 ·obtain⟨u,s,h⟩:=ae h;cases h;exact ZL (ZA f (ZA j (bf s))) (ZA @fP.eq_1 (ZA a.symm g))
theorem w_hj(c:af)(d:Int)(g:Int){r:Bool×List ar}(h:Kx c d g=some r):OkM Tryz.prog 212 [.agg [.lst .o 1 (((c).Nodes).map AV.z),.lst .o 4 (((c).Fibers).map (ah .o))],.i d,.i g] [] (.tup [.sl 6 0 r.2.length,.b r.1]) ([(6,.arr 2 (r.2.map (aA .m)))]):=by
 refine bJ (lr:=[6]) aY UA rfl rfl ?_;unfold Kx at h;simp only[ZC,Ji,fP];obtain⟨l,j,h⟩:=ae h;refine ZF trivial ?_;refine ZSG trivial (w_hi _ _ _ j) ?_;obtain⟨a,h⟩|⟨a,h⟩:=au h
 ·cases h;exact ZL a @fP.eq_1
 ·obtain⟨p,k,h⟩:=ae h;refine ZF a ?_;refine ZWG a (w_ev _ _ _ k) [6] [1800006] ?_;cases h;exact ZL a @fP.eq_1
def S_f(a:Int)(b:Int)(v:Int×List Int):St:=⟨[(0,.i a),(1,.i b),(5,.sl 5 0 v.2.length),(6,.i v.1)],[(5,.arr 1 (v.2.map AV.i))]⟩
def oP(v:List Int):St:=⟨[(5,.sl 5 0 v.length)],[(5,.arr 1 (v.map AV.i))]⟩
theorem w_f(d:Int)(g:Int)(b:Int×List Int)(o:(Int×List Int)⊕(List Int))(h:M_f d g b=some o):AWP (OkS Tryz.prog) zd (qL [0,1,5,6] [5] (S_f d g) (qX 0 [5] [5] (oP)) o) (S_f d g b):=by
 have e:=ZA @S_f.eq_1 @oP.eq_1;unfold M_f at h;simp only[ZC,S_f,zd];obtain⟨a,h⟩|⟨a,h⟩:=au h
 ·obtain⟨x,t,h⟩:=ae h;refine ZF a ?_;refine ZSG a (IQ _ t) ?_;obtain⟨j,h⟩|⟨j,h⟩:=au h
  ·obtain⟨k,c,h⟩:=bl h;have u:Row.arr 1 [(.i b.1:AV)]=Row.arr 1 (k.map AV.i):=by rw[<-c];rfl
   have m:k.length=1:=by rw[<-c];rfl
   obtain⟨y,v,h⟩:=ae h;have p:=bf v;obtain⟨q,l,h⟩:=bl h;have w:b.2.map AV.i++k.map AV.i=q.map AV.i:=by rw[<-l,List.map_append]
   have s:b.2.length+1=q.length:=by simp[<-c,<-l]<;>omega
   rw[s] at p;cases h;exact ZL (ZA a (ZA j (ZA u (ZA m (ZA p (ZA w s)))))) (ZA e (ZA c.symm (ZA l.symm m)))
  ·cases h;exact ZL (ZA a j) e
 ·cases h;exact ZL a e
theorem w_gb(a:Int)(b:Int){r:List Int}(h:Ni a b=some r):Ok Tryz.prog 213 [.i a,.i b] (.lst .u 1 (r.map AV.i)):=by
 refine ax aY m213 rfl ?_;unfold Ni at h;simp only[ZC,A213,V85,aB];obtain⟨d,c,h⟩:=ae h;try refine ZF trivial ?_
 refine aJ (bn (aG (w_f a b) c ?_)) ?_
 ·exact ZK (ZA @S_f.eq_1 @oP.eq_1)
 ·simp only[ZC,oP,Lz];cases h;exact ZL trivial @V85.eq_1
def Lp(a:aj)(c:aq)(d:Bool×List ar)(v:Int):St:=⟨[(2,.pt 2 0 0),(3,.pt 3 0 0),(4,.pt 4 0 0),(7,.sl 7 0 d.2.length),(8,.b d.1),(9,.i v)],[(2,.var (.agg [.lst .o 1 (a.Plan.Network.Nodes.map AV.z),.lst .o 4 (a.Plan.Network.Fibers.map (ah .o)),.lst .o 5 (a.Plan.Lights.map (ai .o)),.lst .o 5 (a.Home.map (ai .o)),.lst .o 1 (a.Down.map AV.i)])),(3,.var (.agg [.i c.Id,.i c.Route.Start,.lst .o 1 (c.Route.Fibers.map AV.i),.i c.Block.First,.i c.Block.Count])),(4,.var (.agg [.i 0,.i 0,.lst .u 1 [],.i 0,.i 0])),(7,.arr 2 (d.2.map (aA .m)))]⟩
def Bn(v:Unit):St:=⟨[(4,.pt 4 0 0)],[(4,.var (.agg [.i 0,.i 0,.lst .u 1 [],.i 0,.i 0]))]⟩
theorem w_am(a:aj)(c:aq)(d:Bool×List ar)(g:Int)(o:Int⊕(Unit⊕(aq×Bool)))(h:De a c d g=some o):AWP (OkS Tryz.prog) zV (qL [2,3,4,7,8,9] [2,3,4,7] (Lp a c d) (qS (qX 0 [4] [4] (Bn)) (qR kP (fun r=>.tup [.agg [.i r.1.Id,.i r.1.Route.Start,.lst .u 1 (r.1.Route.Fibers.map AV.i),.i r.1.Block.First,.i r.1.Block.Count],.b r.2]))) o) (Lp a c d g):=by
 have e:=ZA @Lp.eq_1 @Bn.eq_1;unfold De at h;simp only[ZC,Lp,zV];obtain⟨q,t,h⟩:=ae h;try refine ZF trivial ?_
 refine aJ (sh:=(fun v=>⟨[(2,.pt 2 0 0),(3,.pt 3 0 0),(4,.pt 4 0 0),(7,.sl 7 0 d.2.length),(8,.b d.1),(9,.i g),(52,.b v)],[(2,.var (.agg [.lst .o 1 (a.Plan.Network.Nodes.map AV.z),.lst .o 4 (a.Plan.Network.Fibers.map (ah .o)),.lst .o 5 (a.Plan.Lights.map (ai .o)),.lst .o 5 (a.Home.map (ai .o)),.lst .o 1 (a.Down.map AV.i)])),(3,.var (.agg [.i c.Id,.i c.Route.Start,.lst .o 1 (c.Route.Fibers.map AV.i),.i c.Block.First,.i c.Block.Count])),(4,.var (.agg [.i 0,.i 0,.lst .u 1 [],.i 0,.i 0])),(7,.arr 2 (d.2.map (aA .m)))]⟩)) (s:=q) ?_ ?_
 ·replace h:=t;obtain⟨j,h⟩|⟨j,h⟩:=au h
  ·cases h;exact ZL j trivial
  ·cases h;exact ZL j trivial
 ·simp only[ZC,Oa];obtain⟨k,h⟩|⟨k,h⟩:=au h
  ·obtain⟨i1,w,h⟩:=ae h;obtain⟨j1,x,h⟩:=ae h;obtain⟨k1,y,h⟩:=ae h;have f:=ZA k (ZA (bf w) x);refine ZF f ?_;refine ZSG f (Sw _ _ y) ?_;obtain⟨l,h⟩|⟨l,h⟩:=au h
   ·cases h;exact ZL (ZA f l) e
   ·obtain⟨l1,a1,h⟩:=ae h;have f:=ZA f l;refine ZF f ?_;refine ZSG f (w_de _ _ a1) ?_;obtain⟨m1,b1,h⟩:=ae h;refine ZF f ?_;refine ZUG f (w_gb _ _ b1) ?_;obtain⟨p,h⟩|⟨p,h⟩:=au h
    ·obtain⟨p1,c1,h⟩:=ae h;have f:=ZA f p;refine ZF f ?_;refine ZUG f (w_do _ c1) ?_;obtain⟨q1,d1,h⟩:=ae h;obtain⟨s1,g1,h⟩:=ae h;cases h;exact ZL (ZA f (ZA (bf d1) g1)) @kP.eq_1
    ·cases h;exact ZL (ZA f p) e
  ·cases h;exact ZL k e
theorem w_eu(a:aj)(c:aq){r:aq×Bool}(h:CT a c=some r):Ok Tryz.prog 173 [.agg [.lst .o 1 (a.Plan.Network.Nodes.map AV.z),.lst .o 4 (a.Plan.Network.Fibers.map (ah .o)),.lst .o 5 (a.Plan.Lights.map (ai .o)),.lst .o 5 (a.Home.map (ai .o)),.lst .o 1 (a.Down.map AV.i)],.agg [.i c.Id,.i c.Route.Start,.lst .o 1 (c.Route.Fibers.map AV.i),.i c.Block.First,.i c.Block.Count]] (.tup [.agg [.i r.1.Id,.i r.1.Route.Start,.lst .u 1 (r.1.Route.Fibers.map AV.i),.i r.1.Block.First,.i r.1.Block.Count],.b r.2]):=by
 refine ax aY m173 rfl ?_;unfold CT at h;simp only[ZC,A173,kP,aB];obtain⟨j,k,h⟩:=ae h;try refine ZF trivial ?_
 refine aJ (sh:=(fun v=>⟨[(2,.pt 2 0 0),(3,.pt 3 0 0),(4,.pt 4 0 0),(6,.pt 6 0 0),(31,.b v)],[(2,.var (.agg [.lst .o 1 (a.Plan.Network.Nodes.map AV.z),.lst .o 4 (a.Plan.Network.Fibers.map (ah .o)),.lst .o 5 (a.Plan.Lights.map (ai .o)),.lst .o 5 (a.Home.map (ai .o)),.lst .o 1 (a.Down.map AV.i)])),(3,.var (.agg [.i c.Id,.i c.Route.Start,.lst .o 1 (c.Route.Fibers.map AV.i),.i c.Block.First,.i c.Block.Count])),(4,.var (.agg [.i 0,.i 0,.lst .u 1 [],.i 0,.i 0])),(6,.var (.agg [.lst .o 1 (a.Plan.Network.Nodes.map AV.z),.lst .o 4 (a.Plan.Network.Fibers.map (ah .o))]))]⟩)) (s:=j) ?_ ?_
 ·replace h:=k;obtain⟨c1,l,h⟩:=ae h;refine ZF trivial ?_;refine ZSG trivial (Sw _ _ l) ?_;obtain⟨g,h⟩|⟨g,h⟩:=au h
  ·obtain⟨d1,m,h⟩:=ae h;refine ZF g ?_;refine ZSG g (w_de _ _ m) ?_;obtain⟨g1,p,h⟩:=ae h;refine ZF g ?_;refine ZSG g (IQ _ p) ?_;cases h;exact ZL g trivial
  ·cases h;exact ZL g trivial
 ·simp only[ZC,Lo];obtain⟨d,h⟩|⟨d,h⟩:=au h
  ·obtain⟨i1,q,h⟩:=ae h;refine ZF d ?_;refine ZUG d (PX _ q) ?_;cases h;exact ZL d @kP.eq_1
  ·obtain⟨j1,t,h⟩:=ae h;refine ZF d ?_;refine ZSG d (WE _ _ t) ?_;obtain⟨w,x,h⟩:=ae h;refine ZF d ?_;refine ZWG d (w_hj _ _ _ x) [6] [4400006] ?_;obtain⟨y,a1,h⟩:=ae h;try refine ZF d ?_
   refine bj (o:=y) (bq cy (aG (w_am a c w) a1 ?_)) (fun k1 hv=>?_) (fun l1 hv e τ hne hq=>?_)
   ·exact ZK (ZA @Lp.eq_1 @Bn.eq_1)
   ·subst hv;simp only[] at h;simp only[ZC,Bn,Kf];cases h;exact ZL d @kP.eq_1
   ·subst hv;simp only[] at h;obtain⟨rfl,b1⟩:=hq;cases h;exact b1
theorem w_hs(a:af){r:af}(h:Qe a=some r):Ok Tryz.prog 89 [.agg [.lst .o 1 (a.Nodes.map AV.z),.lst .o 4 (a.Fibers.map (ah .o))]] (.agg [.lst .u 1 (r.Nodes.map AV.z),.lst .u 4 (r.Fibers.map (ah .u))]):=by
 refine ax aY m89 rfl ?_;unfold Qe at h;simp only[ZC,A89,V37,aB];obtain⟨d,b,h⟩:=ae h;obtain⟨g,c,h⟩:=ae h;cases h;exact ZL (ZA (bf b) (bf c)) @V37.eq_1
def S_l(b:aK)(a:af)(v:Int×List aq):St:=⟨[(1,.pt 1 0 0),(2,.pt 2 0 0),(3,.pt 3 0 0),(4,.i v.1)],[(1,.var (.agg [.lst .o 1 (b.Network.Nodes.map AV.z),.lst .o 4 (b.Network.Fibers.map (ah .o)),.lst .o 5 (b.Lights.map (ai .o))])),(2,.var (.agg [.lst .u 1 [],.lst .u 4 [],.lst .u 5 []])),(3,.var (.agg [.sl 500000192 0 a.Nodes.length,.sl 500000193 0 a.Fibers.length,.sl 500000194 0 v.2.length])),(500000192,.arr 1 (a.Nodes.map AV.z)),(500000193,.arr 4 (a.Fibers.map (ah .u))),(500000194,.arr 5 (v.2.map (ai .u)))]⟩
def uN(a:af)(v:List aq):St:=⟨[(2,.pt 2 0 0),(3,.pt 3 0 0)],[(2,.var (.agg [.lst .u 1 [],.lst .u 4 [],.lst .u 5 []])),(3,.var (.agg [.sl 500000192 0 a.Nodes.length,.sl 500000193 0 a.Fibers.length,.sl 500000194 0 v.length])),(500000192,.arr 1 (a.Nodes.map AV.z)),(500000193,.arr 4 (a.Fibers.map (ah .u))),(500000194,.arr 5 (v.map (ai .u)))]⟩
theorem w_l(d:aK)(g:af)(b:Int×List aq)(o:(Int×List aq)⊕(List aq))(h:M_l d b=some o):AWP (OkS Tryz.prog) Na (qL [1,2,3,4] [1,2,3,500000192,500000193,500000194] (S_l d g) (qX 0 [2,3] [2,3,500000192,500000193,500000194] (uN g)) o) (S_l d g b):=by
 have e:=ZA @S_l.eq_1 @uN.eq_1;unfold M_l at h;simp only[ZC,S_l,Na];obtain⟨j,h⟩|⟨j,h⟩:=au h
 ·obtain⟨z,t,h⟩:=ae h;obtain⟨a,v,h⟩:=ae h;have f:=ZA j (aP t);refine ZF f ?_;refine ZUG f (PX _ v) ?_;obtain⟨k,c,h⟩:=bl h;have w:Row.arr 5 [(.agg [.i a.Id,.i a.Route.Start,.lst .u 1 (a.Route.Fibers.map AV.i),.i a.Block.First,.i a.Block.Count]:AV)]=Row.arr 5 (k.map (ai .u)):=by rw[<-c];rfl
  have m:k.length=1:=by rw[<-c];rfl
  obtain⟨a1,x,h⟩:=ae h;have p:=bf x;obtain⟨q,l,h⟩:=bl h;have y:b.2.map (ai .u)++k.map (ai .u)=q.map (ai .u):=by rw[<-l,List.map_append]
  have s:b.2.length+1=q.length:=by simp[<-c,<-l]<;>omega
  rw[s] at p;cases h;exact ZL (ZA f (ZA w (ZA m (ZA p (ZA y s))))) (ZA e (ZA c.symm (ZA l.symm m)))
 ·cases h;exact ZL j e
theorem w_df(a:aK){r:aK}(h:xQ a=some r):Ok Tryz.prog 75 [.agg [.lst .o 1 (a.Network.Nodes.map AV.z),.lst .o 4 (a.Network.Fibers.map (ah .o)),.lst .o 5 (a.Lights.map (ai .o))]] (.agg [.lst .u 1 (r.Network.Nodes.map AV.z),.lst .u 4 (r.Network.Fibers.map (ah .u)),.lst .u 5 (r.Lights.map (ai .u))]):=by
 refine ax aY m75 rfl ?_;unfold xQ at h;simp only[ZC,A75,V26,aB];obtain⟨b,c,h⟩:=ae h;refine ZF trivial ?_;refine ZUG trivial (w_hs _ c) ?_;obtain⟨g,d,h⟩:=ae h;try refine ZF trivial ?_
 refine aJ (bn (aG (w_l a b) d ?_)) ?_
 ·exact ZK (ZA @S_l.eq_1 @uN.eq_1)
 ·simp only[ZC,uN,Th];cases h;exact ZL trivial @V26.eq_1
def Ik(a:List aq)(v:Int×List aq):St:=⟨[(0,.lst .o 5 (a.map (ai .o))),(3,.sl 3 0 v.2.length),(4,.i v.1)],[(3,.arr 5 (v.2.map (ai .u)))]⟩
theorem w_bs(d:List aq)(b:Int×List aq)(o:(Int×List aq)⊕(List aq))(h:Cc d b=some o):AWP (OkS Tryz.prog) JK (qL [0,3,4] [3] (Ik d) (qX 0 [3] [3] (wt)) o) (Ik d b):=by
 have e:=ZA @Ik.eq_1 @wt.eq_1;unfold Cc at h;simp only[ZC,Ik,JK];obtain⟨g,h⟩|⟨g,h⟩:=au h
 ·obtain⟨y,s,h⟩:=ae h;obtain⟨a,t,h⟩:=ae h;have f:=ZA g (aP s);refine ZF f ?_;refine ZUG f (PX _ t) ?_;obtain⟨j,c,h⟩:=bl h;have v:Row.arr 5 [(.agg [.i a.Id,.i a.Route.Start,.lst .u 1 (a.Route.Fibers.map AV.i),.i a.Block.First,.i a.Block.Count]:AV)]=Row.arr 5 (j.map (ai .u)):=by rw[<-c];rfl
  have l:j.length=1:=by rw[<-c];rfl
  obtain⟨z,w,h⟩:=ae h;have m:=bf w;obtain⟨p,k,h⟩:=bl h;have x:b.2.map (ai .u)++j.map (ai .u)=p.map (ai .u):=by rw[<-k,List.map_append]
  have q:b.2.length+1=p.length:=by simp[<-c,<-k]<;>omega
  rw[q] at m;cases h;exact ZL (ZA f (ZA v (ZA l (ZA m (ZA x q))))) (ZA e (ZA c.symm (ZA k.symm l)))
 ·cases h;exact ZL g e
theorem w_fs(a:List aq){r:List aq}(h:Ns a=some r):Ok Tryz.prog 76 [.lst .o 5 (a.map (ai .o))] (.lst .u 5 (r.map (ai .u))):=by
 refine ax aY m76 rfl ?_;unfold Ns at h;simp only[ZC,A76,V91,aB];obtain⟨c,b,h⟩:=ae h;try refine ZF trivial ?_
 refine aJ (bn (aG (w_bs a) b ?_)) ?_
 ·exact ZK (ZA @Ik.eq_1 @wt.eq_1)
 ·simp only[ZC,wt,Tn];cases h;exact ZL trivial @V91.eq_1
theorem w_et(a:aj){r:aj}(h:Cz a=some r):Ok Tryz.prog 143 [.agg [.lst .o 1 (a.Plan.Network.Nodes.map AV.z),.lst .o 4 (a.Plan.Network.Fibers.map (ah .o)),.lst .o 5 (a.Plan.Lights.map (ai .o)),.lst .o 5 (a.Home.map (ai .o)),.lst .o 1 (a.Down.map AV.i)]] (.agg [.lst .u 1 (r.Plan.Network.Nodes.map AV.z),.lst .u 4 (r.Plan.Network.Fibers.map (ah .u)),.lst .u 5 (r.Plan.Lights.map (ai .u)),.lst .u 5 (r.Home.map (ai .u)),.lst .u 1 (r.Down.map AV.i)]):=by
 refine ax aY m143 rfl ?_;unfold Cz at h;simp only[ZC,A143,me,aB];obtain⟨g,b,h⟩:=ae h;refine ZF trivial ?_;refine ZUG trivial (w_df _ b) ?_;obtain⟨j,c,h⟩:=ae h;refine ZF trivial ?_;refine ZUG trivial (w_fs _ c) ?_;obtain⟨k,d,h⟩:=ae h;refine ZF trivial ?_;refine ZUG trivial (w_o _ d) ?_;cases h;exact ZL trivial @me.eq_1
def tF(c:Int)(d:Int)(g:Int)(j:Int)(k:List ByteArray)(l:List ay)(m:List aq)(b:List Int)(a:aK)(v:Int):St:=⟨[(3,.pt 3 0 0),(4,.pt 4 0 0),(5,.pt 5 0 0),(6,.i v)],[(3,.var (.agg [.i c,.i d,.sl 1000000003 0 b.length,.i g,.i j])),(4,.var (.agg [.lst .u 1 [],.lst .u 4 [],.lst .u 5 []])),(5,.var (.agg [.sl 8 0 a.Network.Nodes.length,.sl 1008 0 a.Network.Fibers.length,.sl 2008 0 a.Lights.length])),(8,.arr 1 (a.Network.Nodes.map AV.z)),(1008,.arr 4 (a.Network.Fibers.map (ah .u))),(2008,.arr 5 (a.Lights.map (ai .u))),(1000000000,.arr 1 (k.map AV.z)),(1000000001,.arr 4 (l.map (ah .u))),(1000000002,.arr 5 (m.map (ai .u))),(1000000003,.arr 1 (b.map AV.i))]⟩
theorem w_ap(a:Int)(d:Int)(g:Int)(i:Int)(j:List ByteArray)(k:List ay)(l:List aq)(m:List Int)(b:aK)(q:Int)(o:Int⊕Int)(h:Co a b q=some o):AWP (OkS Tryz.prog) uL (qL [3,4,5,6] [3,4,5,8,1008,2008,1000000000,1000000001,1000000002,1000000003] (tF a d g i j k l m b) (qX 0 [3,4,5,6] [3,4,5,8,1008,2008,1000000000,1000000001,1000000002,1000000003] (tF a d g i j k l m b)) o) (tF a d g i j k l m b q):=by
 have e:=ZA @tF.eq_1 @tF.eq_1;unfold Co at h;simp only[ZC,tF,uL];obtain⟨c,h⟩|⟨c,h⟩:=au h
 ·obtain⟨u,s,h⟩:=ae h;obtain⟨v,t,h⟩:=ae h;obtain⟨p,h⟩|⟨p,h⟩:=au h
  ·cases h;exact ZL (ZA c (ZA (bf s) (ZA t p))) e
  ·cases h;exact ZL (ZA c (ZA (bf s) (ZA t p))) e
 ·cases h;exact ZL c e
theorem w_hh(t:Int)(v:Int)(w:Int)(x:Int)(k:List ByteArray)(l:List ay)(p:List aq)(q:List Int){r:List ByteArray×List aq×List ay×List ByteArray×List ay×List aq×List Int}(h:NZ t v w x k l p q=some r):OkM Tryz.prog 90 [.agg [.sl 1000000000 0 k.length,.sl 1000000001 0 l.length,.sl 1000000002 0 p.length],.agg [.i t,.i v,.sl 1000000003 0 q.length,.i w,.i x]] [(1000000000,.arr 1 (k.map AV.z)),(1000000001,.arr 4 (l.map (ah .u))),(1000000002,.arr 5 (p.map (ai .u))),(1000000003,.arr 1 (q.map AV.i))] (.agg [.sl 8 0 r.1.length,.sl 1008 0 r.2.2.1.length,.sl 41 0 r.2.1.length]) ([(8,.arr 1 (r.1.map AV.z)),(41,.arr 5 (r.2.1.map (ai .m))),(1008,.arr 4 (r.2.2.1.map (ah .u))),(1000000000,.arr 1 (r.2.2.2.1.map AV.z)),(1000000001,.arr 4 (r.2.2.2.2.1.map (ah .u))),(1000000002,.arr 5 (r.2.2.2.2.2.1.map (ai .u))),(1000000003,.arr 1 (r.2.2.2.2.2.2.map AV.i))]):=by
 refine bJ (lr:=[8,41,1008,1000000000,1000000001,1000000002,1000000003]) aY Xo rfl rfl ?_;unfold NZ at h;simp only[ZC,Tz,sU];obtain⟨s,l1,h⟩:=ae h;refine ZF trivial ?_;refine ZUG trivial (w_df _ l1) ?_;obtain⟨y,m1,h⟩:=ae h;try refine ZF trivial ?_
 refine aJ (bn (aG (w_ap t v w x k l p q s) m1 ?_)) ?_
 ·exact ZK (ZA @tF.eq_1 @tF.eq_1)
 ·simp only[ZC,tF,AH];obtain⟨i2,p1,h⟩:=ae h;obtain⟨b,q1,h⟩:=bl h;have s1:sub (s.Lights.map (ai .u)) 0 (Int.toNat y)=b.map (ai .u):=by rw[dy,q1]
  obtain⟨j2,t1,h⟩:=ae h;obtain⟨c,u1,h⟩:=ae h;have f:=ZA (bf p1) (ZA s1 (bf t1));refine ZF f ?_;refine ZUG f (PX _ u1) ?_;obtain⟨d,a,h⟩:=bl h;have v1:Row.arr 5 [(.agg [.i c.Id,.i c.Route.Start,.lst .u 1 (c.Route.Fibers.map AV.i),.i c.Block.First,.i c.Block.Count]:AV)]=Row.arr 5 (d.map (ai .u)):=by rw[<-a];rfl
  have c1:d.length=1:=by rw[<-a];rfl
  obtain⟨k2,w1,h⟩:=ae h;have d1:=bf w1;obtain⟨g,j,h⟩:=bl h;have y1:b.map (ai .m)++d.map (ai .m)=g.map (ai .m):=by rw[<-j,List.map_append]
  have g1:b.length+1=g.length:=by simp[<-a,<-j]<;>omega
  rw[g1] at d1;obtain⟨l2,z1,h⟩:=ae h;obtain⟨a1,a2,h⟩:=bl h;have b2:sub (s.Lights.map (ai .u)) (Int.toNat y) (s.Lights.length-(Int.toNat y))=a1.map (ai .u):=by rw[dy,a2]
  have c2:sub (b.map (ai .m)++d.map (ai .u)) 0 g.length=b.map (ai .m)++d.map (ai .u):=if_pos ⟨rfl,by simp[<-a,<-j]⟩;obtain⟨m2,d2,h⟩:=ae h;have i1:=bf d2;obtain⟨j1,b1,h⟩:=bl h;have g2:g.map (ai .m)++a1.map (ai .m)=j1.map (ai .m):=by rw[<-b1,List.map_append]
  have k1:g.length+a1.length=j1.length:=by simp[<-a,<-j,<-b1]<;>omega
  rw[k1] at i1;cases h;exact ZL (ZA f (ZA v1 (ZA c1 (ZA d1 (ZA y1 (ZA g1 (ZA (bf z1) (ZA b2 (ZA c2 (ZA i1 (ZA g2 k1))))))))))) (ZA @sU.eq_1 (ZA a.symm (ZA j.symm (ZA b1.symm c1))))
theorem w_hk(l:Int)(a:List ByteArray)(c:List ay)(d:List aq)(g:List aq)(j:List Int){r:Bool×List ByteArray×List ay×List aq×List aq×List Int×List ByteArray×List ay×List aq×List aq×List Int}(h:Gu l a c d g j=some r):OkM Tryz.prog 117 [.agg [.sl 1000000000 0 a.length,.sl 1000000001 0 c.length,.sl 1000000002 0 d.length,.sl 1000000003 0 g.length,.sl 1000000004 0 j.length],.i l] [(1000000000,.arr 1 (a.map AV.z)),(1000000001,.arr 4 (c.map (ah .u))),(1000000002,.arr 5 (d.map (ai .u))),(1000000003,.arr 5 (g.map (ai .u))),(1000000004,.arr 1 (j.map AV.i))] (.tup [.agg [.sl 500000256 0 r.2.1.length,.sl 500000257 0 r.2.2.1.length,.sl 500000258 0 r.2.2.2.1.length,.sl 500000259 0 r.2.2.2.2.1.length,.sl 500000260 0 r.2.2.2.2.2.1.length],.b r.1]) ([(500000256,.arr 1 (r.2.1.map AV.z)),(500000257,.arr 4 (r.2.2.1.map (ah .u))),(500000258,.arr 5 (r.2.2.2.1.map (ai .m))),(500000259,.arr 5 (r.2.2.2.2.1.map (ai .u))),(500000260,.arr 1 (r.2.2.2.2.2.1.map AV.i)),(1000000000,.arr 1 (r.2.2.2.2.2.2.1.map AV.z)),(1000000001,.arr 4 (r.2.2.2.2.2.2.2.1.map (ah .u))),(1000000002,.arr 5 (r.2.2.2.2.2.2.2.2.1.map (ai .u))),(1000000003,.arr 5 (r.2.2.2.2.2.2.2.2.2.1.map (ai .u))),(1000000004,.arr 1 (r.2.2.2.2.2.2.2.2.2.2.map AV.i))]):=by
 refine bJ (lr:=[500000256,500000257,500000258,500000259,500000260,1000000000,1000000001,1000000002,1000000003,1000000004]) aY Ud rfl rfl ?_;unfold Gu at h;simp only[ZC,Ls,kP];obtain⟨w,p,h⟩:=ae h;obtain⟨x,q,h⟩:=ae h;obtain⟨y,s,h⟩:=ae h;have f:=ZA (bf p) q;refine ZF f ?_;refine ZUG f (w_eu _ _ s) ?_;obtain⟨a1,t,h⟩:=ae h;refine ZF f ?_;refine ZUG f (w_et _ t) ?_;obtain⟨k,h⟩|⟨k,h⟩:=au h
 ·obtain⟨b1,v,h⟩:=ae h;have f:=ZA f k;refine ZF f ?_;refine ZWG f (w_hh _ _ _ _ _ _ _ _ v) [8,41,1008,1000000000,1000000001,1000000002,1000000003] [2600008,2600041,2601008] ?_;cases h;exact ZL f @kP.eq_1
 ·cases h;exact ZL (ZA f k) @kP.eq_1
theorem w_fl(p:Int)(d:List ByteArray)(g:List ay)(j:List aq)(k:List aq)(l:List Int){r:Bool×Bool×List ByteArray×List ay×List aq×List aq×List Int×List ByteArray×List ay×List aq×List aq×List Int}(h:IL p d g j k l=some r):OkM Tryz.prog 49 [.agg [.sl 1000000000 0 d.length,.sl 1000000001 0 g.length,.sl 1000000002 0 j.length,.sl 1000000003 0 k.length,.sl 1000000004 0 l.length],.i p] [(1000000000,.arr 1 (d.map AV.z)),(1000000001,.arr 4 (g.map (ah .u))),(1000000002,.arr 5 (j.map (ai .u))),(1000000003,.arr 5 (k.map (ai .u))),(1000000004,.arr 1 (l.map AV.i))] (.tup [.agg [.sl 500000256 0 r.2.2.1.length,.sl 500000257 0 r.2.2.2.1.length,.sl 500000258 0 r.2.2.2.2.1.length,.sl 500000259 0 r.2.2.2.2.2.1.length,.sl 500000260 0 r.2.2.2.2.2.2.1.length],.b r.1,.b r.2.1]) ([(500000256,.arr 1 (r.2.2.1.map AV.z)),(500000257,.arr 4 (r.2.2.2.1.map (ah .u))),(500000258,.arr 5 (r.2.2.2.2.1.map (ai .m))),(500000259,.arr 5 (r.2.2.2.2.2.1.map (ai .u))),(500000260,.arr 1 (r.2.2.2.2.2.2.1.map AV.i)),(1000000000,.arr 1 (r.2.2.2.2.2.2.2.1.map AV.z)),(1000000001,.arr 4 (r.2.2.2.2.2.2.2.2.1.map (ah .u))),(1000000002,.arr 5 (r.2.2.2.2.2.2.2.2.2.1.map (ai .u))),(1000000003,.arr 5 (r.2.2.2.2.2.2.2.2.2.2.1.map (ai .u))),(1000000004,.arr 1 (r.2.2.2.2.2.2.2.2.2.2.2.map AV.i))]):=by
 refine bJ (lr:=[500000256,500000257,500000258,500000259,500000260,1000000000,1000000001,1000000002,1000000003,1000000004]) aY WN rfl rfl ?_;unfold IL at h;simp only[ZC,Tu,nX];obtain⟨t,w,h⟩:=ae h;try refine ZF trivial ?_
 refine aJ (sh:=(fun v=>⟨[(1,.i p),(2,.pt 2 0 0),(4,.pt 4 0 0),(25,.b v)],[(2,.var (.agg [.sl 1000000000 0 d.length,.sl 1000000001 0 g.length,.sl 1000000002 0 j.length,.sl 1000000003 0 k.length,.sl 1000000004 0 l.length])),(4,.var (.agg [.lst .u 1 [],.lst .u 4 [],.lst .u 5 [],.lst .u 5 [],.lst .u 1 []])),(1000000000,.arr 1 (d.map AV.z)),(1000000001,.arr 4 (g.map (ah .u))),(1000000002,.arr 5 (j.map (ai .u))),(1000000003,.arr 5 (k.map (ai .u))),(1000000004,.arr 1 (l.map AV.i))]⟩)) (s:=t) ?_ ?_
 ·replace h:=w;obtain⟨d1,x,h⟩:=ae h;refine ZF trivial ?_;refine ZSG trivial (w_ef _ x) ?_;obtain⟨c,h⟩|⟨c,h⟩:=au h
  ·cases h;exact ZL c trivial
  ·obtain⟨g1,y,h⟩:=ae h;refine ZF c ?_;refine ZSG c (UF _ _ y) ?_;obtain⟨q,h⟩|⟨q,h⟩:=au h
   ·cases h;exact ZL (ZA c q) trivial
   ·obtain⟨i1,a1,h⟩:=ae h;have f:=ZA c q;refine ZF f ?_;refine ZSG f (w_eg _ _ a1) ?_;cases h;exact ZL f trivial
 ·simp only[ZC,BC];obtain⟨a,h⟩|⟨a,h⟩:=au h
  ·cases h;exact ZL a @nX.eq_1
  ·obtain⟨j1,b1,h⟩:=ae h;refine ZF a ?_;refine ZSG a (UF _ _ b1) ?_;obtain⟨k1,c1,h⟩:=ae h;refine ZF a ?_;refine ZWG a (w_hk _ _ _ _ _ _ c1) [500000256,500000257,500000258,500000259,500000260,1000000000,1000000001,1000000002,1000000003,1000000004] [503400256,503400257,503400258,503400259,503400260] ?_;cases h;exact ZL a @nX.eq_1
theorem w_h(c:Int)(d:Int)(g:Int){r:Bool}(h:M_h c d g=some r):Ok Tryz.prog 132 [.i c,.i d,.i g] (.b r):=by
 refine ax aY m132 rfl ?_;unfold M_h at h;simp only[ZC,A132,eI,aB];obtain⟨a,h⟩|⟨a,h⟩:=au h
 ·cases h;exact ZL a @eI.eq_1
 ·cases h;exact ZL a @eI.eq_1
def LF(a:ByteArray)(v:Int):St:=⟨[(0,.z a),(7,.i (a.size:Int)),(8,.i v)],[]⟩
def AJ(a:ByteArray)(v:Unit):St:=⟨[(0,.z a)],[]⟩
theorem w_aj(c:ByteArray)(j:Int)(o:Int⊕(Unit⊕Bool))(h:Dc c j=some o):AWP (OkS Tryz.prog) xp (qL [0,7,8] [] (LF c) (qS (qX 0 [0] [] (AJ c)) (qR V91 (fun r=>.b r))) o) (LF c j):=by
 have e:=ZA @LF.eq_1 @AJ.eq_1;unfold Dc at h;simp only[ZC,LF,xp];obtain⟨a,h⟩|⟨a,h⟩:=au h
 ·obtain⟨t,u,h⟩:=ae h;try refine ZF a ?_
  refine aJ (sh:=(fun v=>⟨[(0,.z c),(3,.i j),(4,.b v.1),(5,.b v.2),(7,.i (c.size:Int)),(8,.i j)],[]⟩)) (s:=t) ?_ ?_
  ·replace h:=u;obtain⟨w,k,h⟩:=ae h;obtain⟨d,h⟩|⟨d,h⟩:=au h
   ·obtain⟨m,h⟩|⟨m,h⟩:=au h
    ·cases h;exact ZL (ZA a (ZA (jU k) (ZA d m))) trivial
    ·cases h;exact ZL (ZA a (ZA (jU k) (ZA d m))) trivial
   ·obtain⟨p,h⟩|⟨p,h⟩:=au h
    ·cases h;exact ZL (ZA a (ZA (jU k) (ZA d p))) trivial
    ·cases h;exact ZL (ZA a (ZA (jU k) (ZA d p))) trivial
  ·simp only[ZC,Ju];obtain⟨g,h⟩|⟨g,h⟩:=au h
   ·obtain⟨l,h⟩|⟨l,h⟩:=au h
    ·cases h;exact ZL (ZA a (ZA g l)) @V91.eq_1
    ·obtain⟨q,h⟩|⟨q,h⟩:=au h
     ·cases h;exact ZL (ZA a (ZA g (ZA l q))) @V91.eq_1
     ·cases h;exact ZL (ZA a (ZA g (ZA l q))) e
   ·cases h;exact ZL (ZA a g) e
 ·cases h;exact ZL a e
theorem w_hb(a:ByteArray){r:Bool}(h:Hq a=some r):Ok Tryz.prog 180 [.z a] (.b r):=by
 refine ax aY m180 rfl ?_;unfold Hq at h;simp only[ZC,A180,V91,aB];obtain⟨c,d,h⟩:=ae h;try refine ZF trivial ?_
 refine bj (o:=c) (bq cy (aG (w_aj a) d ?_)) (fun j hv=>?_) (fun k hv e τ hne hq=>?_)
 ·exact ZK (ZA @LF.eq_1 @AJ.eq_1)
 ·subst hv;simp only[] at h;simp only[ZC,AJ,Io];obtain⟨l,g,h⟩:=ae h;refine ZF trivial ?_;refine ZSG trivial (w_h _ _ _ g) ?_;cases h;exact ZL trivial @V91.eq_1
 ·subst hv;simp only[] at h;obtain⟨rfl,i⟩:=hq;cases h;exact i
def JN(a:List ByteArray)(b:ByteArray)(v:Int):St:=⟨[(0,.lst .o 1 (a.map AV.z)),(1,.z b),(7,.i (a.length:Int)),(8,.i v)],[]⟩
theorem w_cc(b:List ByteArray)(c:ByteArray)(g:Int)(o:Int⊕(Unit⊕Int))(h:Dk b c g=some o):AWP (OkS Tryz.prog) xn (qL [0,1,7,8] [] (JN b c) (qS (qX 0 [] [] (bN)) (qR V85 (fun r=>.i r))) o) (JN b c g):=by
 have e:=ZA @JN.eq_1 @bN.eq_1;unfold Dk at h;simp only[ZC,JN,xn];obtain⟨a,h⟩|⟨a,h⟩:=au h
 ·obtain⟨k,j,h⟩:=ae h;obtain⟨d,h⟩|⟨d,h⟩:=au h
  ·cases h;exact ZL (ZA a (ZA (aP j) d)) @V85.eq_1
  ·cases h;exact ZL (ZA a (ZA (aP j) d)) e
 ·cases h;exact ZL a e
theorem w_hz(a:List ByteArray)(b:ByteArray){r:Int}(h:RU a b=some r):Ok Tryz.prog 221 [.lst .o 1 (a.map AV.z),.z b] (.i r):=by
 refine ax aY m221 rfl ?_;unfold RU at h;simp only[ZC,A221,V85,aB];obtain⟨c,d,h⟩:=ae h;try refine ZF trivial ?_
 refine bj (o:=c) (bq cy (aG (w_cc a b) d ?_)) (fun j hv=>?_) (fun k hv e τ hne hq=>?_)
 ·exact ZK (ZA @JN.eq_1 @bN.eq_1)
 ·subst hv;simp only[] at h;simp only[ZC,bN,LV];cases h;exact ZL trivial @V85.eq_1
 ·subst hv;simp only[] at h;obtain⟨rfl,g⟩:=hq;cases h;exact g
theorem w_hf(a:List ByteArray)(c:ByteArray){r:Bool}(h:Mj a c=some r):Ok Tryz.prog 181 [.lst .o 1 (a.map AV.z),.z c] (.b r):=by
 refine ax aY m181 rfl ?_;unfold Mj at h;simp only[ZC,A181,V85,aB];obtain⟨g,d,h⟩:=ae h;refine ZF trivial ?_;refine ZSG trivial (w_hz _ _ d) ?_;cases h;exact ZL trivial @V85.eq_1
theorem Rh(a:Int){r:Bool}(h:wI a=some r):Ok Tryz.prog 233 [.i a] (.b r):=by
 refine ax aY m233 rfl ?_;unfold wI at h;simp only[ZC,A233,V91,aB];cases h;exact ZL trivial @V91.eq_1
theorem w_u(j:Int)(k:Int){r:Int}(h:M_u j k=some r):Ok Tryz.prog 223 [.i j,.i k] (.i r):=by
 have e:=@V85.eq_1;refine ax aY m223 rfl ?_;unfold M_u at h;simp only[ZC,A223,V85,aB];obtain⟨p,l,h⟩:=ae h;refine ZF trivial ?_;refine ZSG trivial (Rh _ l) ?_;obtain⟨q,m,h⟩:=ae h;refine ZF trivial ?_;refine ZSG trivial (Rh _ m) ?_;obtain⟨a,h⟩|⟨a,h⟩:=au h
 ·obtain⟨d,h⟩|⟨d,h⟩:=au h
  ·cases h;exact ZL (ZA a d) e
  ·cases h;exact ZL (ZA a d) e
 ·obtain⟨b,h⟩|⟨b,h⟩:=au h
  ·cases h;exact ZL (ZA a b) e
  ·obtain⟨c,h⟩|⟨c,h⟩:=au h
   ·cases h;exact ZL (ZA a (ZA b c)) e
   ·obtain⟨g,h⟩|⟨g,h⟩:=au h
    ·cases h;exact ZL (ZA a (ZA b (ZA c g))) e
    ·cases h;exact ZL (ZA a (ZA b (ZA c g))) e
def S_q(a:List Int)(v:Int):St:=⟨[(3,.i 0),(6,.lst .o 1 (a.map AV.i)),(7,.i (a.length:Int)),(8,.i v)],[]⟩
def Oy(v:Unit):St:=⟨[(3,.i 0)],[]⟩
theorem w_q(b:List Int)(d:Int)(o:Int⊕(Unit⊕Int))(h:M_q b d=some o):AWP (OkS Tryz.prog) ze (qL [3,6,7,8] [] (S_q b) (qS (qX 0 [3] [] (Oy)) (qR V91 (fun r=>.i r))) o) (S_q b d):=by
 have e:=ZA @S_q.eq_1 @Oy.eq_1;unfold M_q at h;simp only[ZC,S_q,ze];obtain⟨a,h⟩|⟨a,h⟩:=au h
 ·obtain⟨j,g,h⟩:=ae h;obtain⟨c,h⟩|⟨c,h⟩:=au h
  ·cases h;exact ZL (ZA a (ZA (aP g) c)) @V91.eq_1
  ·cases h;exact ZL (ZA a (ZA (aP g) c)) e
 ·cases h;exact ZL a e
theorem w_dh(a:List Int){r:Int}(h:xY a=some r):Ok Tryz.prog 222 [.lst .o 1 (a.map AV.i)] (.i r):=by
 refine ax aY m222 rfl ?_;unfold xY at h;simp only[ZC,A222,V91,aB];obtain⟨b,c,h⟩:=ae h;try refine ZF trivial ?_
 refine bj (o:=b) (bq cy (aG (w_q a) c ?_)) (fun g hv=>?_) (fun j hv e τ hne hq=>?_)
 ·exact ZK (ZA @S_q.eq_1 @Oy.eq_1)
 ·subst hv;simp only[] at h;simp only[ZC,Oy,LG];cases h;exact ZL trivial @V91.eq_1
 ·subst hv;simp only[] at h;obtain⟨rfl,d⟩:=hq;cases h;exact d
theorem w_hg(a:ay)(b:ay){r:Int}(h:LD a b=some r):Ok Tryz.prog 182 [.agg [.i a.A,.i a.B,.i a.Length,.i a.Risk],.agg [.i b.A,.i b.B,.i b.Length,.i b.Risk]] (.i r):=by
 refine ax aY m182 rfl ?_;unfold LD at h;simp only[ZC,A182,V85,aB];obtain⟨j,k,h⟩:=ae h;refine ZF trivial ?_;refine ZSG trivial (w_u _ _ k) ?_;obtain⟨l,m,h⟩:=ae h;refine ZF trivial ?_;refine ZSG trivial (w_u _ _ m) ?_;obtain⟨p,q,h⟩:=ae h;refine ZF trivial ?_;refine ZSG trivial (w_u _ _ q) ?_;obtain⟨s,t,h⟩:=ae h;refine ZF trivial ?_;refine ZSG trivial (w_u _ _ t) ?_;obtain⟨c,d,h⟩:=bl h;have u:Row.arr 1 [(.i j:AV),(.i l:AV),(.i p:AV),(.i s:AV)]=Row.arr 1 (c.map AV.i):=by rw[<-d];rfl
 have g:c.length=4:=by rw[<-d];rfl
 have v:sub (c.map AV.i) 0 4=c.map AV.i:=sM _ (by simp[<-d]);obtain⟨x,w,h⟩:=ae h;have f:=ZA u (ZA g v);refine ZF f ?_;refine ZSG f (w_dh _ w) ?_;cases h;exact ZL f (ZA @V85.eq_1 (ZA d.symm g))
def Ft(a:af)(v:Int):St:=⟨[(1,.pt 1 0 0),(8,.lst .o 1 (a.Nodes.map AV.z)),(9,.i (a.Nodes.length:Int)),(10,.i v)],[(1,.var (.agg [.lst .o 1 (a.Nodes.map AV.z),.lst .o 4 (a.Fibers.map (ah .o))]))]⟩
theorem w_ax(a:af)(i:Int)(o:Int⊕(Unit⊕Bool))(h:Cr a i=some o):AWP (OkS Tryz.prog) zB (qL [1,8,9,10] [1] (Ft a) (qS (qX 0 [1] [1] (ma a)) (qR V91 (fun r=>.b r))) o) (Ft a i):=by
 unfold Cr at h;simp only[ZC,Ft,zB];obtain⟨c,h⟩|⟨c,h⟩:=au h
 ·obtain⟨v,j,h⟩:=ae h;obtain⟨w,k,h⟩:=ae h;have f:=ZA c (aP j);refine ZF f ?_;refine ZSG f (w_hb _ k) ?_;obtain⟨d,h⟩|⟨d,h⟩:=au h
  ·cases h;exact ZL (ZA f d) @V91.eq_1
  ·obtain⟨x,l,h⟩:=ae h;obtain⟨m,p,q,s,t⟩:=JZ AV.z l;obtain⟨y,u,h⟩:=ae h;have f:=ZA f (ZA d (ZA m (ZA p (ZA q (ZA s t)))));refine ZF f ?_;refine ZSG f (w_hf _ _ u) ?_;obtain⟨g,h⟩|⟨g,h⟩:=au h
   ·cases h;exact ZL (ZA f g) @V91.eq_1
   ·cases h;exact ZL (ZA f g) (ZA @Ft.eq_1 @ma.eq_1)
 ·cases h;exact ZL c (ZA @Ft.eq_1 @ma.eq_1)
def yU(a:af)(v:Int):St:=⟨[(1,.pt 1 0 0),(28,.lst .o 4 (a.Fibers.map (ah .o))),(29,.i (a.Fibers.length:Int)),(30,.i v)],[(1,.var (.agg [.lst .o 1 (a.Nodes.map AV.z),.lst .o 4 (a.Fibers.map (ah .o))]))]⟩
theorem w_av(d:af)(q:Int)(o:Int⊕(Unit⊕Bool))(h:FR d q=some o):AWP (OkS Tryz.prog) yC (qL [1,28,29,30] [1] (yU d) (qS (qX 2 [1] [1] (ma d)) (qR V91 (fun r=>.b r))) o) (yU d q):=by
 have e:=@V91.eq_1;unfold FR at h;simp only[ZC,yU,yC];obtain⟨a,h⟩|⟨a,h⟩:=au h
 ·obtain⟨w,g,h⟩:=ae h;obtain⟨c,h⟩|⟨c,h⟩:=au h
  ·cases h;exact ZL (ZA a (ZA (aP g) c)) e
  ·obtain⟨i,h⟩|⟨i,h⟩:=au h
   ·cases h;exact ZL (ZA a (ZA (aP g) (ZA c i))) e
   ·obtain⟨k,h⟩|⟨k,h⟩:=au h
    ·cases h;exact ZL (ZA a (ZA (aP g) (ZA c (ZA i k)))) e
    ·obtain⟨x,s,h⟩:=ae h;have f:=ZA a (ZA (aP g) (ZA c (ZA i k)));refine ZF f ?_;refine ZSG f (w_h _ _ _ s) ?_;obtain⟨l,h⟩|⟨l,h⟩:=au h
     ·cases h;exact ZL (ZA f l) e
     ·obtain⟨y,t,h⟩:=ae h;have f:=ZA f l;refine ZF f ?_;refine ZSG f (w_h _ _ _ t) ?_;obtain⟨j,h⟩|⟨j,h⟩:=au h
      ·cases h;exact ZL (ZA f j) e
      ·obtain⟨m,h⟩|⟨m,h⟩:=au h
       ·obtain⟨z,u,h⟩:=ae h;obtain⟨a1,v,h⟩:=ae h;have f:=ZA f (ZA j (ZA m (aP u)));refine ZF f ?_;refine ZSG f (w_hg _ _ v) ?_;obtain⟨p,h⟩|⟨p,h⟩:=au h
        ·cases h;exact ZL (ZA f p) e
        ·cases h;exact ZL (ZA f p) (ZA @yU.eq_1 @ma.eq_1)
       ·cases h;exact ZL (ZA f (ZA j m)) (ZA @yU.eq_1 @ma.eq_1)
 ·cases h;exact ZL a (ZA @yU.eq_1 @ma.eq_1)
theorem w_dk(a:af){r:Bool}(h:Fa a=some r):Ok Tryz.prog 128 [.agg [.lst .o 1 (a.Nodes.map AV.z),.lst .o 4 (a.Fibers.map (ah .o))]] (.b r):=by
 refine ax aY m128 rfl ?_;unfold Fa at h;simp only[ZC,A128,V91,aB];obtain⟨d,g,h⟩:=ae h;try refine ZF trivial ?_
 refine bj (o:=d) (bq cy (aG (w_ax a) g ?_)) (fun p hv=>?_) (fun q hv e τ hne hq=>?_)
 ·exact ZK (ZA @Ft.eq_1 @ma.eq_1)
 ·subst hv;simp only[] at h;simp only[ZC,ma,MA];obtain⟨i,j,h⟩:=ae h;try refine ZF trivial ?_
  refine bj (o:=i) (bq cy (aG (w_av a) j ?_)) (fun s hv=>?_) (fun t hv e τ hne hq=>?_)
  ·exact ZK (ZA @yU.eq_1 @ma.eq_1)
  ·subst hv;simp only[] at h;simp only[ZC,ma,Nq];obtain⟨u,k,h⟩:=ae h;refine ZF trivial ?_;refine ZSG trivial (w_h _ _ _ k) ?_;obtain⟨c,h⟩|⟨c,h⟩:=au h
   ·cases h;exact ZL c @V91.eq_1
   ·cases h;exact ZL c @V91.eq_1
  ·subst hv;simp only[] at h;obtain⟨rfl,l⟩:=hq;cases h;exact l
 ·subst hv;simp only[] at h;obtain⟨rfl,m⟩:=hq;cases h;exact m
theorem Wq(a:ay)(d:Int){r:Int}(h:yK a d=some r):Ok Tryz.prog 185 [.agg [.i a.A,.i a.B,.i a.Length,.i a.Risk],.i d] (.i r):=by
 refine ax aY m185 rfl ?_;unfold yK at h;simp only[ZC,A185,V85,aB];obtain⟨b,h⟩|⟨b,h⟩:=au h
 ·cases h;exact ZL b @V85.eq_1
 ·obtain⟨c,h⟩|⟨c,h⟩:=au h
  ·cases h;exact ZL (ZA b c) @V85.eq_1
  ·cases h;exact ZL (ZA b c) @V85.eq_1
def GP(a:List Int)(b:Int)(v:Int):St:=⟨[(0,.lst .o 1 (a.map AV.i)),(1,.i b),(7,.i (a.length:Int)),(8,.i v)],[]⟩
theorem w_bm(b:List Int)(c:Int)(g:Int)(o:Int⊕(Unit⊕Int))(h:Ch b c g=some o):AWP (OkS Tryz.prog) xK (qL [0,1,7,8] [] (GP b c) (qS (qX 0 [] [] (bN)) (qR V85 (fun r=>.i r))) o) (GP b c g):=by
 have e:=ZA @GP.eq_1 @bN.eq_1;unfold Ch at h;simp only[ZC,GP,xK];obtain⟨a,h⟩|⟨a,h⟩:=au h
 ·obtain⟨k,j,h⟩:=ae h;obtain⟨d,h⟩|⟨d,h⟩:=au h
  ·cases h;exact ZL (ZA a (ZA (aP j) d)) @V85.eq_1
  ·cases h;exact ZL (ZA a (ZA (aP j) d)) e
 ·cases h;exact ZL a e
theorem w_hn(a:List Int)(b:Int){r:Int}(h:Rq a b=some r):Ok Tryz.prog 146 [.lst .o 1 (a.map AV.i),.i b] (.i r):=by
 refine ax aY m146 rfl ?_;unfold Rq at h;simp only[ZC,A146,V85,aB];obtain⟨c,d,h⟩:=ae h;try refine ZF trivial ?_
 refine bj (o:=c) (bq cy (aG (w_bm a b) d ?_)) (fun j hv=>?_) (fun k hv e τ hne hq=>?_)
 ·exact ZK (ZA @GP.eq_1 @bN.eq_1)
 ·subst hv;simp only[] at h;simp only[ZC,bN,Kv];cases h;exact ZL trivial @V85.eq_1
 ·subst hv;simp only[] at h;obtain⟨rfl,g⟩:=hq;cases h;exact g
theorem TZ(a:List Int)(c:Int){r:Bool}(h:zk a c=some r):Ok Tryz.prog 84 [.lst .o 1 (a.map AV.i),.i c] (.b r):=by
 refine ax aY m84 rfl ?_;unfold zk at h;simp only[ZC,A84,V85,aB];obtain⟨g,d,h⟩:=ae h;refine ZF trivial ?_;refine ZSG trivial (w_hn _ _ d) ?_;cases h;exact ZL trivial @V85.eq_1
def Dp(a:af)(b:ar)(v:Int×Int×List Int):St:=⟨[(2,.pt 2 0 0),(6,.sl 6 0 v.2.2.length),(7,.i v.1),(30,.lst .o 1 (b.Fibers.map AV.i)),(31,.i (b.Fibers.length:Int)),(32,.i v.2.1)],[(2,.var (.agg [.lst .o 1 (a.Nodes.map AV.z),.lst .o 4 (a.Fibers.map (ah .o))])),(6,.arr 1 (v.2.2.map AV.i))]⟩
theorem w_bb(c:af)(d:ar)(a:Int×Int×List Int)(o:(Int×Int×List Int)⊕((List Int)⊕(List Int×Bool)))(h:Fq c d a=some o):AWP (OkS Tryz.prog) zW (qL [2,6,7,30,31,32] [2,6] (Dp c d) (qS (qX 0 [6] [6] (rL)) (qR nb (fun r=>.tup [.lst .u 1 (r.1.map AV.i),.b r.2]))) o) (Dp c d a):=by
 unfold Fq at h;simp only[ZC,Dp,zW];obtain⟨j,h⟩|⟨j,h⟩:=au h
 ·obtain⟨q1,b1,h⟩:=ae h;obtain⟨s1,c1,h⟩:=ae h;have f:=ZA j (aP b1);refine ZF f ?_;refine ZSG f (w_h _ _ _ c1) ?_;obtain⟨k,h⟩|⟨k,h⟩:=au h
  ·cases h;exact ZL (ZA f k) @nb.eq_1
  ·obtain⟨t1,d1,h⟩:=ae h;obtain⟨t,g1,h⟩:=ae h;have f:=ZA f (ZA k (aP d1));refine ZF f ?_;refine ZSG f (Wq _ _ g1) ?_;obtain⟨i1,j1,h⟩:=ae h;try refine ZF f ?_
   refine aJ (sh:=(fun v=>⟨[(2,.pt 2 0 0),(6,.sl 6 0 a.2.2.length),(7,.i t),(30,.lst .o 1 (d.Fibers.map AV.i)),(31,.i (d.Fibers.length:Int)),(32,.i a.2.1),(56,.b v)],[(2,.var (.agg [.lst .o 1 (c.Nodes.map AV.z),.lst .o 4 (c.Fibers.map (ah .o))])),(6,.arr 1 (a.2.2.map AV.i))]⟩)) (s:=i1) ?_ ?_
   ·replace h:=j1;obtain⟨l,h⟩|⟨l,h⟩:=au h
    ·cases h;exact ZL (ZA f l) trivial
    ·obtain⟨u1,k1,h⟩:=ae h;have f:=ZA f l;refine ZF f ?_;refine ZSG f (TZ _ _ k1) ?_;cases h;exact ZL f trivial
   ·simp only[ZC,NP];obtain⟨m,h⟩|⟨m,h⟩:=au h
    ·cases h;exact ZL (ZA f m) @nb.eq_1
    ·obtain⟨p,g,h⟩:=bl h;have l1:Row.arr 1 [(.i t:AV)]=Row.arr 1 (p.map AV.i):=by rw[<-g];rfl
     have w:p.length=1:=by rw[<-g];rfl
     obtain⟨v1,m1,h⟩:=ae h;have x:=bf m1;obtain⟨y,q,h⟩:=bl h;have p1:a.2.2.map AV.i++p.map AV.i=y.map AV.i:=by rw[<-q,List.map_append]
     have a1:a.2.2.length+1=y.length:=by simp[<-g,<-q]<;>omega
     rw[a1] at x;cases h;exact ZL (ZA f (ZA m (ZA l1 (ZA w (ZA x (ZA p1 a1)))))) (ZA @Dp.eq_1 (ZA @rL.eq_1 (ZA g.symm (ZA q.symm w))))
 ·cases h;exact ZL j (ZA @Dp.eq_1 @rL.eq_1)
end Vs

